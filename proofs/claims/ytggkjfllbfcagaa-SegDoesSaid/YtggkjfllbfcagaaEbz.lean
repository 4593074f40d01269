import Derived.Test.YtggkjfllbfcagaaEa9
import Derived.Test.YtggkjfllbfcagaaEa5
import Derived.Test.YtggkjfllbfcagaaEa7
import Derived.Test.YtggkjfllbfcagaaLabRs
section
namespace Go.Proofs.Ytggkjfllbfcagaa
open Go Go.RowKit
set_option linter.unusedVariables false
set_option linter.unusedSimpArgs false
set_option maxHeartbeats 16000000
set_option maxRecDepth 100000
/-! obj: which objects can be. -/
@[go_sem] theorem arrL_bd (S : Nat → Prop) (f : Nat → List Pr) : BdL S (arr 4 (fun i => [.sl (List.map Pr.enc (f i))])) = True := by
  refine eq_true fun p hp => ?_
  simp only [arr, List.mem_flatMap, List.mem_cons, List.not_mem_nil, or_false] at hp
  obtain ⟨i, _, rfl⟩ := hp
  rw [Pr.bdS]; trivial
@[go_sem] theorem cut_arrL_0 (f : Nat → List Pr) : cut Try.prog 24 (arr 4 (fun i => [.sl (List.map Pr.enc (f i))])) 0 = some (.sl (List.map Pr.enc (f 0))) := by kernel_rfl
@[go_sem] theorem cut_arrL_1 (f : Nat → List Pr) : cut Try.prog 24 (arr 4 (fun i => [.sl (List.map Pr.enc (f i))])) 1 = some (.sl (List.map Pr.enc (f 1))) := by kernel_rfl
@[go_sem] theorem cut_arrL_2 (f : Nat → List Pr) : cut Try.prog 24 (arr 4 (fun i => [.sl (List.map Pr.enc (f i))])) 2 = some (.sl (List.map Pr.enc (f 2))) := by kernel_rfl
@[go_sem] theorem cut_arrL_3 (f : Nat → List Pr) : cut Try.prog 24 (arr 4 (fun i => [.sl (List.map Pr.enc (f i))])) 3 = some (.sl (List.map Pr.enc (f 3))) := by kernel_rfl
attribute [local irreducible] pwOps dr pwCode Ex.then Ex.inBlock retQ okAll drawOk Pure CSat evOp calleeP rdOf upd hset strip sp0 cut envL heapL Again Keep BdL evBs AgainK KeepK
/-- As obj has it: the label order by label.Leq. -/
def thFitO (o : Ob) : Bool := allB 4 (labsKept o.thread) && ((o.thread.state == 1 || decide (o.thread.wait = Wt.zero)) && ((o.thread.state == 0 || (o.thread.state == 1 || o.thread.state == 2)) && (!o.fixed && (kept o.thread.clear && (labLeq o.label o.thread.clear && (decide ((o.thread.alerts.length : Int) ≤ 8) && spanFit o.thread.span))))))
theorem kept_len {l : List Pr} (h : kept l = true) : l.length ≤ 16 := by
  unfold kept at h; simp only [Bool.and_eq_true, decide_eq_true_eq] at h; exact h.2.1
theorem obj_threadSound (o : Ob) (ha : o.thread.L) (hl : o.label.length ≤ 900000) : Pure Try.prog 169 [.agg (Ob.enc o)] (.bool (thFitO o)) := by
  refine pureI (by kernel_rfl) (by simp only [go_sem, *]) (by simp only [go_sem, *]) Try.func169 Try.results169 rfl (by simp [Try.ntmps169]) (by kernel_rfl) ?_
  obtain ⟨l1, l2, l3⟩ := ha
  repeat' (first
    | (show pwOps ..; first | refine pops_nil ?_ | refine pops_n rfl ?_ | refine pops_w' rfl rfl ?_)
    | (show runGo ..; first | refine run_ev rfl rfl ?_ | refine run_call rfl ?_)
    | (show goOn ..; first | refine on_nop ?_ | refine on_new ?_ | refine on_put ?_ | refine on_born ?_ | refine on_grow ?_)
    | (show putGo ..; refine put_box ?_)
    | (show wGo ..; first | refine gw_tt ?_ | refine gw_ff ?_ | refine gw_tf ?_ | refine gw_ft ?_ | refine gw_u ?_ | refine gw_tn (fun _ => ?_) (fun _ => ?_) | refine gw_fn (fun _ => ?_) (fun _ => ?_) | refine gw_tb (fun _ => ?_) (fun _ => ?_) | refine gw_fb (fun _ => ?_) (fun _ => ?_))
    | (show dr ..; first | refine dr_nil ?_ | refine dr_n rfl ?_ | refine dr_w' rfl rfl ?_)
    | (show drGo ..; first | refine dr_ev rfl ?_ | refine dr_call rfl ?_)
    | (show drOn ..; first | refine dn_nop ?_ | refine dn_new ?_ | refine dn_put ?_ | refine dn_born ?_ | refine dn_grow ?_)
    | (show dputGo ..; refine dput_box ?_)
    | (refine And.intro (by kernel_rfl : okAll _ = true) ?_)
    | (show pwCode ..; first | refine pc_seq ?_ | refine pc_region ?_ | refine pc_draw (by kernel_rfl) ?_ | refine pc_ret ?_ | refine pc_skip ?_ | refine pc_block ?_ | refine pc_exit ?_ | refine pc_cond ?_)
    | (show condGo ..; first | refine cd_t ?_ | refine cd_f ?_ | refine cd_n (fun _ => ?_) (fun _ => ?_) | refine cd_b (fun _ => ?_) (fun _ => ?_))
    | refine th_normal ?_
    | refine th_ret ?_
    | refine th_exit ?_
    | refine th_pan ?_
    | refine bl_normal ?_
    | refine bl_exit ?_
    | refine bl_pass rfl ?_
    | refine bl_ret ?_
    | refine bl_pan ?_
    | (show retQ ..; first | refine rt_ret ?_ | refine rt_normal ?_)
    | refine rs_some ?_)
  refine pc_loop (S := Nat) (fun n => 4 - n) (fun n => n ≤ 4 ∧ ∀ j, j < n → labsKept o.thread j = true) (fun n => [(1, .ptr 0 0), (3, .ptr 1 0), (11, .agg (arr 4 (fun i => [.sl (List.map Pr.enc (o.thread.labs i))]))), (12, .int .i64 n)]) (fun _ => [(0, .box (Ob.enc o)), (1, .box (Th.enc o.thread))]) (fun _ => 2) 0 ⟨Nat.zero_le _, fun j hj => absurd hj (Nat.not_lt_zero j)⟩ (by (refine keepI ?_ ?_ <;> repeat' (first | exact ke_nil | exact kg_nil | refine ke_cons (by (try simp only [go_sem, *]); try rfl) (by simp only [go_sem, *]) ?_ | refine kg_box (by (try simp only [go_sem, *]); try rfl) (by omega) (by simp only [go_sem, *]) ?_ | refine kg_row (by (try simp only [go_sem, *]); try rfl) (by omega) (by simp only [go_sem, *]) ?_))) ?_
  rintro n ⟨hn, hs⟩
  have no : ∀ i, i < 4 → labsKept o.thread i = false → thFitO o = false := fun i hi h => by unfold thFitO; rw [allB_false hi h]; rfl
  rcases (by omega : n = 0 ∨ n = 1 ∨ n = 2 ∨ n = 3 ∨ n = 4) with rfl | rfl | rfl | rfl | rfl
  · have k := l3 0 (by omega)
    simp only [c0]
    repeat' (first
    | (show pwOps ..; first | refine pops_nil ?_ | refine pops_n rfl ?_ | refine pops_w' rfl rfl ?_)
    | (show runGo ..; first | refine run_ev rfl rfl ?_ | refine run_call rfl ?_)
    | (show goOn ..; first | refine on_nop ?_ | refine on_new ?_ | refine on_put ?_ | refine on_born ?_ | refine on_grow ?_)
    | (show putGo ..; refine put_box ?_)
    | (show callGo ..; (refine call_pure (r := ?_) ?_ ?_; rotate_left 1; (focus first | exact obj_kept _ k)))
    | (show wGo ..; first | refine gw_tt ?_ | refine gw_ff ?_ | refine gw_tf ?_ | refine gw_ft ?_ | refine gw_u ?_ | refine gw_tn (fun _ => ?_) (fun _ => ?_) | refine gw_fn (fun _ => ?_) (fun _ => ?_) | refine gw_tb (fun _ => ?_) (fun _ => ?_) | refine gw_fb (fun _ => ?_) (fun _ => ?_))
    | (show dr ..; first | refine dr_nil ?_ | refine dr_n rfl ?_ | refine dr_w' rfl rfl ?_)
    | (show drGo ..; first | refine dr_ev rfl ?_ | refine dr_call rfl ?_)
    | (show drOn ..; first | refine dn_nop ?_ | refine dn_new ?_ | refine dn_put ?_ | refine dn_born ?_ | refine dn_grow ?_)
    | (show dputGo ..; refine dput_box ?_)
    | (show dcallGo ..; (refine dcall_pure (r := ?_) ?_ ?_; rotate_left 1; (focus first | exact obj_kept _ k)))
    | (refine And.intro (by kernel_rfl : okAll _ = true) ?_)
    | (show pwCode ..; first | refine pc_seq ?_ | refine pc_region ?_ | refine pc_draw (by kernel_rfl) ?_ | refine pc_ret ?_ | refine pc_skip ?_ | refine pc_block ?_ | refine pc_exit ?_ | refine pc_cond ?_)
    | (show condGo ..; first | refine cd_t ?_ | refine cd_f ?_ | refine cd_n (fun _ => ?_) (fun _ => ?_) | refine cd_b (fun _ => ?_) (fun _ => ?_))
    | refine th_normal ?_
    | refine th_ret ?_
    | refine th_exit ?_
    | refine th_pan ?_
    | refine bl_normal ?_
    | refine bl_exit ?_
    | refine bl_pass rfl ?_
    | refine bl_ret ?_
    | refine bl_pan ?_
    | (show retQ ..; first | refine rt_ret ?_ | refine rt_normal ?_)
    | refine rs_some ?_)
    all_goals rename_i hc
    · exact ret_of (no 0 (by omega) hc).symm
    · exact again 1 ⟨by omega, up_to hs hc⟩ (by omega) (by (refine keepI ?_ ?_ <;> repeat' (first | exact ke_nil | exact kg_nil | refine ke_cons (by (try simp only [go_sem, *]); try rfl) (by simp only [go_sem, *]) ?_ | refine kg_box (by (try simp only [go_sem, *]); try rfl) (by omega) (by simp only [go_sem, *]) ?_ | refine kg_row (by (try simp only [go_sem, *]); try rfl) (by omega) (by simp only [go_sem, *]) ?_)))
  · have k := l3 1 (by omega)
    simp only [c1]
    repeat' (first
    | (show pwOps ..; first | refine pops_nil ?_ | refine pops_n rfl ?_ | refine pops_w' rfl rfl ?_)
    | (show runGo ..; first | refine run_ev rfl rfl ?_ | refine run_call rfl ?_)
    | (show goOn ..; first | refine on_nop ?_ | refine on_new ?_ | refine on_put ?_ | refine on_born ?_ | refine on_grow ?_)
    | (show putGo ..; refine put_box ?_)
    | (show callGo ..; (refine call_pure (r := ?_) ?_ ?_; rotate_left 1; (focus first | exact obj_kept _ k)))
    | (show wGo ..; first | refine gw_tt ?_ | refine gw_ff ?_ | refine gw_tf ?_ | refine gw_ft ?_ | refine gw_u ?_ | refine gw_tn (fun _ => ?_) (fun _ => ?_) | refine gw_fn (fun _ => ?_) (fun _ => ?_) | refine gw_tb (fun _ => ?_) (fun _ => ?_) | refine gw_fb (fun _ => ?_) (fun _ => ?_))
    | (show dr ..; first | refine dr_nil ?_ | refine dr_n rfl ?_ | refine dr_w' rfl rfl ?_)
    | (show drGo ..; first | refine dr_ev rfl ?_ | refine dr_call rfl ?_)
    | (show drOn ..; first | refine dn_nop ?_ | refine dn_new ?_ | refine dn_put ?_ | refine dn_born ?_ | refine dn_grow ?_)
    | (show dputGo ..; refine dput_box ?_)
    | (show dcallGo ..; (refine dcall_pure (r := ?_) ?_ ?_; rotate_left 1; (focus first | exact obj_kept _ k)))
    | (refine And.intro (by kernel_rfl : okAll _ = true) ?_)
    | (show pwCode ..; first | refine pc_seq ?_ | refine pc_region ?_ | refine pc_draw (by kernel_rfl) ?_ | refine pc_ret ?_ | refine pc_skip ?_ | refine pc_block ?_ | refine pc_exit ?_ | refine pc_cond ?_)
    | (show condGo ..; first | refine cd_t ?_ | refine cd_f ?_ | refine cd_n (fun _ => ?_) (fun _ => ?_) | refine cd_b (fun _ => ?_) (fun _ => ?_))
    | refine th_normal ?_
    | refine th_ret ?_
    | refine th_exit ?_
    | refine th_pan ?_
    | refine bl_normal ?_
    | refine bl_exit ?_
    | refine bl_pass rfl ?_
    | refine bl_ret ?_
    | refine bl_pan ?_
    | (show retQ ..; first | refine rt_ret ?_ | refine rt_normal ?_)
    | refine rs_some ?_)
    all_goals rename_i hc
    · exact ret_of (no 1 (by omega) hc).symm
    · exact again 2 ⟨by omega, up_to hs hc⟩ (by omega) (by (refine keepI ?_ ?_ <;> repeat' (first | exact ke_nil | exact kg_nil | refine ke_cons (by (try simp only [go_sem, *]); try rfl) (by simp only [go_sem, *]) ?_ | refine kg_box (by (try simp only [go_sem, *]); try rfl) (by omega) (by simp only [go_sem, *]) ?_ | refine kg_row (by (try simp only [go_sem, *]); try rfl) (by omega) (by simp only [go_sem, *]) ?_)))
  · have k := l3 2 (by omega)
    simp only [c2]
    repeat' (first
    | (show pwOps ..; first | refine pops_nil ?_ | refine pops_n rfl ?_ | refine pops_w' rfl rfl ?_)
    | (show runGo ..; first | refine run_ev rfl rfl ?_ | refine run_call rfl ?_)
    | (show goOn ..; first | refine on_nop ?_ | refine on_new ?_ | refine on_put ?_ | refine on_born ?_ | refine on_grow ?_)
    | (show putGo ..; refine put_box ?_)
    | (show callGo ..; (refine call_pure (r := ?_) ?_ ?_; rotate_left 1; (focus first | exact obj_kept _ k)))
    | (show wGo ..; first | refine gw_tt ?_ | refine gw_ff ?_ | refine gw_tf ?_ | refine gw_ft ?_ | refine gw_u ?_ | refine gw_tn (fun _ => ?_) (fun _ => ?_) | refine gw_fn (fun _ => ?_) (fun _ => ?_) | refine gw_tb (fun _ => ?_) (fun _ => ?_) | refine gw_fb (fun _ => ?_) (fun _ => ?_))
    | (show dr ..; first | refine dr_nil ?_ | refine dr_n rfl ?_ | refine dr_w' rfl rfl ?_)
    | (show drGo ..; first | refine dr_ev rfl ?_ | refine dr_call rfl ?_)
    | (show drOn ..; first | refine dn_nop ?_ | refine dn_new ?_ | refine dn_put ?_ | refine dn_born ?_ | refine dn_grow ?_)
    | (show dputGo ..; refine dput_box ?_)
    | (show dcallGo ..; (refine dcall_pure (r := ?_) ?_ ?_; rotate_left 1; (focus first | exact obj_kept _ k)))
    | (refine And.intro (by kernel_rfl : okAll _ = true) ?_)
    | (show pwCode ..; first | refine pc_seq ?_ | refine pc_region ?_ | refine pc_draw (by kernel_rfl) ?_ | refine pc_ret ?_ | refine pc_skip ?_ | refine pc_block ?_ | refine pc_exit ?_ | refine pc_cond ?_)
    | (show condGo ..; first | refine cd_t ?_ | refine cd_f ?_ | refine cd_n (fun _ => ?_) (fun _ => ?_) | refine cd_b (fun _ => ?_) (fun _ => ?_))
    | refine th_normal ?_
    | refine th_ret ?_
    | refine th_exit ?_
    | refine th_pan ?_
    | refine bl_normal ?_
    | refine bl_exit ?_
    | refine bl_pass rfl ?_
    | refine bl_ret ?_
    | refine bl_pan ?_
    | (show retQ ..; first | refine rt_ret ?_ | refine rt_normal ?_)
    | refine rs_some ?_)
    all_goals rename_i hc
    · exact ret_of (no 2 (by omega) hc).symm
    · exact again 3 ⟨by omega, up_to hs hc⟩ (by omega) (by (refine keepI ?_ ?_ <;> repeat' (first | exact ke_nil | exact kg_nil | refine ke_cons (by (try simp only [go_sem, *]); try rfl) (by simp only [go_sem, *]) ?_ | refine kg_box (by (try simp only [go_sem, *]); try rfl) (by omega) (by simp only [go_sem, *]) ?_ | refine kg_row (by (try simp only [go_sem, *]); try rfl) (by omega) (by simp only [go_sem, *]) ?_)))
  · have k := l3 3 (by omega)
    simp only [c3]
    repeat' (first
    | (show pwOps ..; first | refine pops_nil ?_ | refine pops_n rfl ?_ | refine pops_w' rfl rfl ?_)
    | (show runGo ..; first | refine run_ev rfl rfl ?_ | refine run_call rfl ?_)
    | (show goOn ..; first | refine on_nop ?_ | refine on_new ?_ | refine on_put ?_ | refine on_born ?_ | refine on_grow ?_)
    | (show putGo ..; refine put_box ?_)
    | (show callGo ..; (refine call_pure (r := ?_) ?_ ?_; rotate_left 1; (focus first | exact obj_kept _ k)))
    | (show wGo ..; first | refine gw_tt ?_ | refine gw_ff ?_ | refine gw_tf ?_ | refine gw_ft ?_ | refine gw_u ?_ | refine gw_tn (fun _ => ?_) (fun _ => ?_) | refine gw_fn (fun _ => ?_) (fun _ => ?_) | refine gw_tb (fun _ => ?_) (fun _ => ?_) | refine gw_fb (fun _ => ?_) (fun _ => ?_))
    | (show dr ..; first | refine dr_nil ?_ | refine dr_n rfl ?_ | refine dr_w' rfl rfl ?_)
    | (show drGo ..; first | refine dr_ev rfl ?_ | refine dr_call rfl ?_)
    | (show drOn ..; first | refine dn_nop ?_ | refine dn_new ?_ | refine dn_put ?_ | refine dn_born ?_ | refine dn_grow ?_)
    | (show dputGo ..; refine dput_box ?_)
    | (show dcallGo ..; (refine dcall_pure (r := ?_) ?_ ?_; rotate_left 1; (focus first | exact obj_kept _ k)))
    | (refine And.intro (by kernel_rfl : okAll _ = true) ?_)
    | (show pwCode ..; first | refine pc_seq ?_ | refine pc_region ?_ | refine pc_draw (by kernel_rfl) ?_ | refine pc_ret ?_ | refine pc_skip ?_ | refine pc_block ?_ | refine pc_exit ?_ | refine pc_cond ?_)
    | (show condGo ..; first | refine cd_t ?_ | refine cd_f ?_ | refine cd_n (fun _ => ?_) (fun _ => ?_) | refine cd_b (fun _ => ?_) (fun _ => ?_))
    | refine th_normal ?_
    | refine th_ret ?_
    | refine th_exit ?_
    | refine th_pan ?_
    | refine bl_normal ?_
    | refine bl_exit ?_
    | refine bl_pass rfl ?_
    | refine bl_ret ?_
    | refine bl_pan ?_
    | (show retQ ..; first | refine rt_ret ?_ | refine rt_normal ?_)
    | refine rs_some ?_)
    all_goals rename_i hc
    · exact ret_of (no 3 (by omega) hc).symm
    · exact again 4 ⟨by omega, up_to hs hc⟩ (by omega) (by (refine keepI ?_ ?_ <;> repeat' (first | exact ke_nil | exact kg_nil | refine ke_cons (by (try simp only [go_sem, *]); try rfl) (by simp only [go_sem, *]) ?_ | refine kg_box (by (try simp only [go_sem, *]); try rfl) (by omega) (by simp only [go_sem, *]) ?_ | refine kg_row (by (try simp only [go_sem, *]); try rfl) (by omega) (by simp only [go_sem, *]) ?_)))
  · have hall : allB 4 (labsKept o.thread) = true := allB_true hs
    simp only [c4]
    have hL : kept o.thread.clear = true → Pure Try.prog 130 [.sl (o.label.map Pr.enc), .sl (o.thread.clear.map Pr.enc)] (.bool (labLeq o.label o.thread.clear)) := fun h => label_leq _ _ (by have := kept_len h; omega)
    repeat' (first
    | (show pwOps ..; first | refine pops_nil ?_ | refine pops_n rfl ?_ | refine pops_w' rfl rfl ?_)
    | (show runGo ..; first | refine run_ev rfl rfl ?_ | refine run_call rfl ?_)
    | (show goOn ..; first | refine on_nop ?_ | refine on_new ?_ | refine on_put ?_ | refine on_born ?_ | refine on_grow ?_)
    | (show putGo ..; refine put_box ?_)
    | (show callGo ..; (refine call_pure (r := ?_) ?_ ?_; rotate_left 1; (focus first | exact obj_kept _ l1 | exact hL (by assumption) | exact serial_fit _)))
    | (show wGo ..; first | refine gw_tt ?_ | refine gw_ff ?_ | refine gw_tf ?_ | refine gw_ft ?_ | refine gw_u ?_ | refine gw_tn (fun _ => ?_) (fun _ => ?_) | refine gw_fn (fun _ => ?_) (fun _ => ?_) | refine gw_tb (fun _ => ?_) (fun _ => ?_) | refine gw_fb (fun _ => ?_) (fun _ => ?_))
    | (show dr ..; first | refine dr_nil ?_ | refine dr_n rfl ?_ | refine dr_w' rfl rfl ?_)
    | (show drGo ..; first | refine dr_ev rfl ?_ | refine dr_call rfl ?_)
    | (show drOn ..; first | refine dn_nop ?_ | refine dn_new ?_ | refine dn_put ?_ | refine dn_born ?_ | refine dn_grow ?_)
    | (show dputGo ..; refine dput_box ?_)
    | (show dcallGo ..; (refine dcall_pure (r := ?_) ?_ ?_; rotate_left 1; (focus first | exact obj_kept _ l1 | exact hL (by assumption) | exact serial_fit _)))
    | (refine And.intro (by kernel_rfl : okAll _ = true) ?_)
    | (show pwCode ..; first | refine pc_seq ?_ | refine pc_region ?_ | refine pc_draw (by kernel_rfl) ?_ | refine pc_ret ?_ | refine pc_skip ?_ | refine pc_block ?_ | refine pc_exit ?_ | refine pc_cond ?_)
    | (show condGo ..; first | refine cd_t ?_ | refine cd_f ?_ | refine cd_n (fun _ => ?_) (fun _ => ?_) | refine cd_b (fun _ => ?_) (fun _ => ?_))
    | refine th_normal ?_
    | refine th_ret ?_
    | refine th_exit ?_
    | refine th_pan ?_
    | refine bl_normal ?_
    | refine bl_exit ?_
    | refine bl_pass rfl ?_
    | refine bl_ret ?_
    | refine bl_pan ?_
    | (show retQ ..; first | refine rt_ret ?_ | refine rt_normal ?_)
    | refine rs_some ?_)
    all_goals (refine ret_of ?_; unfold thFitO; simp only [*, Bool.not_true, Bool.not_false, Bool.and_true, Bool.true_and, Bool.and_false, Bool.false_and, Bool.or_true, Bool.true_or, Bool.or_false, Bool.false_or, Bool.and_self, Bool.or_self, decide_true, decide_false, Bool.not_not, if_true, if_false, Bool.false_eq_true, eq_self])
end Go.Proofs.Ytggkjfllbfcagaa
end

section
namespace Go.Proofs.Ytggkjfllbfcagaa
open Go Go.RowKit
set_option linter.unusedVariables false
set_option linter.unusedSimpArgs false
set_option maxHeartbeats 16000000
set_option maxRecDepth 100000
attribute [local irreducible] pwOps dr pwCode Ex.then Ex.inBlock retQ okAll drawOk Pure CSat evOp calleeP rdOf upd hset strip sp0 cut envL heapL Again Keep BdL evBs AgainK KeepK
/-! pages: which maps can be. -/
def within (a n : Int) : Bool := decide (a ≥ 0) && (decide (a < 1048576) && (decide (n ≥ 1) && decide (n ≤ IntKind.i64.wrap (1048576 - a))))
theorem pages_within (a n : Int) : Pure Try.prog 115 [.int .i64 a, .int .i64 n] (.bool (within a n)) := by
  refine pureI (by kernel_rfl) (by simp only [go_sem, *]) (by simp only [go_sem, *]) Try.func115 Try.results115 rfl (by simp [Try.ntmps115]) (by kernel_rfl) ?_
  repeat' (first
    | (show pwOps ..; first | refine pops_nil ?_ | refine pops_n rfl ?_ | refine pops_w' rfl rfl ?_)
    | (show runGo ..; first | refine run_ev rfl rfl ?_ | refine run_call rfl ?_)
    | (show goOn ..; first | refine on_nop ?_ | refine on_new ?_ | refine on_put ?_ | refine on_born ?_ | refine on_grow ?_)
    | (show putGo ..; refine put_box ?_)
    | (show wGo ..; first | refine gw_tt ?_ | refine gw_ff ?_ | refine gw_tf ?_ | refine gw_ft ?_ | refine gw_u ?_ | refine gw_tn (fun _ => ?_) (fun _ => ?_) | refine gw_fn (fun _ => ?_) (fun _ => ?_) | refine gw_tb (fun _ => ?_) (fun _ => ?_) | refine gw_fb (fun _ => ?_) (fun _ => ?_))
    | (show dr ..; first | refine dr_nil ?_ | refine dr_n rfl ?_ | refine dr_w' rfl rfl ?_)
    | (show drGo ..; first | refine dr_ev rfl ?_ | refine dr_call rfl ?_)
    | (show drOn ..; first | refine dn_nop ?_ | refine dn_new ?_ | refine dn_put ?_ | refine dn_born ?_ | refine dn_grow ?_)
    | (show dputGo ..; refine dput_box ?_)
    | (refine And.intro (by kernel_rfl : okAll _ = true) ?_)
    | (show pwCode ..; first | refine pc_seq ?_ | refine pc_region ?_ | refine pc_draw (by kernel_rfl) ?_ | refine pc_ret ?_ | refine pc_skip ?_ | refine pc_block ?_ | refine pc_exit ?_ | refine pc_cond ?_)
    | (show condGo ..; first | refine cd_t ?_ | refine cd_f ?_ | refine cd_n (fun _ => ?_) (fun _ => ?_) | refine cd_b (fun _ => ?_) (fun _ => ?_))
    | refine th_normal ?_
    | refine th_ret ?_
    | refine th_exit ?_
    | refine th_pan ?_
    | refine bl_normal ?_
    | refine bl_exit ?_
    | refine bl_pass rfl ?_
    | refine bl_ret ?_
    | refine bl_pan ?_
    | (show retQ ..; first | refine rt_ret ?_ | refine rt_normal ?_)
    | refine rs_some ?_)
  all_goals (refine ret_of ?_; unfold within; simp only [*, Bool.not_true, Bool.not_false, Bool.and_true, Bool.true_and, Bool.and_false, Bool.false_and, Bool.or_true, Bool.true_or, Bool.or_false, Bool.false_or, Bool.and_self, Bool.or_self, decide_true, decide_false, Bool.not_not, if_true, if_false, Bool.false_eq_true, eq_self])
def good (m : Mp) : Bool := within m.va m.n && within m.off m.n
theorem pages_good (m : Mp) : Pure Try.prog 68 [.agg (Mp.enc m)] (.bool (good m)) := by
  refine pureI (by kernel_rfl) (by simp only [go_sem, *]) (by simp only [go_sem, *]) Try.func68 Try.results68 rfl (by simp [Try.ntmps68]) (by kernel_rfl) ?_
  repeat' (first
    | (show pwOps ..; first | refine pops_nil ?_ | refine pops_n rfl ?_ | refine pops_w' rfl rfl ?_)
    | (show runGo ..; first | refine run_ev rfl rfl ?_ | refine run_call rfl ?_)
    | (show goOn ..; first | refine on_nop ?_ | refine on_new ?_ | refine on_put ?_ | refine on_born ?_ | refine on_grow ?_)
    | (show putGo ..; refine put_box ?_)
    | (show callGo ..; (refine call_pure (r := ?_) ?_ ?_; rotate_left 1; (focus first | exact pages_within _ _)))
    | (show wGo ..; first | refine gw_tt ?_ | refine gw_ff ?_ | refine gw_tf ?_ | refine gw_ft ?_ | refine gw_u ?_ | refine gw_tn (fun _ => ?_) (fun _ => ?_) | refine gw_fn (fun _ => ?_) (fun _ => ?_) | refine gw_tb (fun _ => ?_) (fun _ => ?_) | refine gw_fb (fun _ => ?_) (fun _ => ?_))
    | (show dr ..; first | refine dr_nil ?_ | refine dr_n rfl ?_ | refine dr_w' rfl rfl ?_)
    | (show drGo ..; first | refine dr_ev rfl ?_ | refine dr_call rfl ?_)
    | (show drOn ..; first | refine dn_nop ?_ | refine dn_new ?_ | refine dn_put ?_ | refine dn_born ?_ | refine dn_grow ?_)
    | (show dputGo ..; refine dput_box ?_)
    | (show dcallGo ..; (refine dcall_pure (r := ?_) ?_ ?_; rotate_left 1; (focus first | exact pages_within _ _)))
    | (refine And.intro (by kernel_rfl : okAll _ = true) ?_)
    | (show pwCode ..; first | refine pc_seq ?_ | refine pc_region ?_ | refine pc_draw (by kernel_rfl) ?_ | refine pc_ret ?_ | refine pc_skip ?_ | refine pc_block ?_ | refine pc_exit ?_ | refine pc_cond ?_)
    | (show condGo ..; first | refine cd_t ?_ | refine cd_f ?_ | refine cd_n (fun _ => ?_) (fun _ => ?_) | refine cd_b (fun _ => ?_) (fun _ => ?_))
    | refine th_normal ?_
    | refine th_ret ?_
    | refine th_exit ?_
    | refine th_pan ?_
    | refine bl_normal ?_
    | refine bl_exit ?_
    | refine bl_pass rfl ?_
    | refine bl_ret ?_
    | refine bl_pan ?_
    | (show retQ ..; first | refine rt_ret ?_ | refine rt_normal ?_)
    | refine rs_some ?_)
  all_goals (refine ret_of ?_; unfold good; simp only [*, Bool.not_true, Bool.not_false, Bool.and_true, Bool.true_and, Bool.and_false, Bool.false_and, Bool.or_true, Bool.true_or, Bool.or_false, Bool.false_or, Bool.and_self, Bool.or_self, decide_true, decide_false, Bool.not_not, if_true, if_false, Bool.false_eq_true, eq_self])
theorem pages_end (m : Mp) : Pure Try.prog 78 [.agg (Mp.enc m)] (.int .i64 (IntKind.i64.wrap (m.va + m.n))) := by
  refine pureI (by kernel_rfl) (by simp only [go_sem, *]) (by simp only [go_sem, *]) Try.func78 Try.results78 rfl (by simp [Try.ntmps78]) (by kernel_rfl) ?_
  repeat' (first
    | (show pwOps ..; first | refine pops_nil ?_ | refine pops_n rfl ?_ | refine pops_w' rfl rfl ?_)
    | (show runGo ..; first | refine run_ev rfl rfl ?_ | refine run_call rfl ?_)
    | (show goOn ..; first | refine on_nop ?_ | refine on_new ?_ | refine on_put ?_ | refine on_born ?_ | refine on_grow ?_)
    | (show putGo ..; refine put_box ?_)
    | (show wGo ..; first | refine gw_tt ?_ | refine gw_ff ?_ | refine gw_tf ?_ | refine gw_ft ?_ | refine gw_u ?_ | refine gw_tn (fun _ => ?_) (fun _ => ?_) | refine gw_fn (fun _ => ?_) (fun _ => ?_) | refine gw_tb (fun _ => ?_) (fun _ => ?_) | refine gw_fb (fun _ => ?_) (fun _ => ?_))
    | (show dr ..; first | refine dr_nil ?_ | refine dr_n rfl ?_ | refine dr_w' rfl rfl ?_)
    | (show drGo ..; first | refine dr_ev rfl ?_ | refine dr_call rfl ?_)
    | (show drOn ..; first | refine dn_nop ?_ | refine dn_new ?_ | refine dn_put ?_ | refine dn_born ?_ | refine dn_grow ?_)
    | (show dputGo ..; refine dput_box ?_)
    | (refine And.intro (by kernel_rfl : okAll _ = true) ?_)
    | (show pwCode ..; first | refine pc_seq ?_ | refine pc_region ?_ | refine pc_draw (by kernel_rfl) ?_ | refine pc_ret ?_ | refine pc_skip ?_ | refine pc_block ?_ | refine pc_exit ?_ | refine pc_cond ?_)
    | (show condGo ..; first | refine cd_t ?_ | refine cd_f ?_ | refine cd_n (fun _ => ?_) (fun _ => ?_) | refine cd_b (fun _ => ?_) (fun _ => ?_))
    | refine th_normal ?_
    | refine th_ret ?_
    | refine th_exit ?_
    | refine th_pan ?_
    | refine bl_normal ?_
    | refine bl_exit ?_
    | refine bl_pass rfl ?_
    | refine bl_ret ?_
    | refine bl_pan ?_
    | (show retQ ..; first | refine rt_ret ?_ | refine rt_normal ?_)
    | refine rs_some ?_)
  all_goals rfl
def has (m : Mp) (p : Int) : Bool := decide (p ≥ m.va) && decide (p < IntKind.i64.wrap (m.va + m.n))
theorem pages_has (m : Mp) (p : Int) : Pure Try.prog 79 [.agg (Mp.enc m), .int .i64 p] (.bool (has m p)) := by
  refine pureI (by kernel_rfl) (by simp only [go_sem, *]) (by simp only [go_sem, *]) Try.func79 Try.results79 rfl (by simp [Try.ntmps79]) (by kernel_rfl) ?_
  repeat' (first
    | (show pwOps ..; first | refine pops_nil ?_ | refine pops_n rfl ?_ | refine pops_w' rfl rfl ?_)
    | (show runGo ..; first | refine run_ev rfl rfl ?_ | refine run_call rfl ?_)
    | (show goOn ..; first | refine on_nop ?_ | refine on_new ?_ | refine on_put ?_ | refine on_born ?_ | refine on_grow ?_)
    | (show putGo ..; refine put_box ?_)
    | (show callGo ..; (refine call_pure (r := ?_) ?_ ?_; rotate_left 1; (focus first | exact pages_end _)))
    | (show wGo ..; first | refine gw_tt ?_ | refine gw_ff ?_ | refine gw_tf ?_ | refine gw_ft ?_ | refine gw_u ?_ | refine gw_tn (fun _ => ?_) (fun _ => ?_) | refine gw_fn (fun _ => ?_) (fun _ => ?_) | refine gw_tb (fun _ => ?_) (fun _ => ?_) | refine gw_fb (fun _ => ?_) (fun _ => ?_))
    | (show dr ..; first | refine dr_nil ?_ | refine dr_n rfl ?_ | refine dr_w' rfl rfl ?_)
    | (show drGo ..; first | refine dr_ev rfl ?_ | refine dr_call rfl ?_)
    | (show drOn ..; first | refine dn_nop ?_ | refine dn_new ?_ | refine dn_put ?_ | refine dn_born ?_ | refine dn_grow ?_)
    | (show dputGo ..; refine dput_box ?_)
    | (show dcallGo ..; (refine dcall_pure (r := ?_) ?_ ?_; rotate_left 1; (focus first | exact pages_end _)))
    | (refine And.intro (by kernel_rfl : okAll _ = true) ?_)
    | (show pwCode ..; first | refine pc_seq ?_ | refine pc_region ?_ | refine pc_draw (by kernel_rfl) ?_ | refine pc_ret ?_ | refine pc_skip ?_ | refine pc_block ?_ | refine pc_exit ?_ | refine pc_cond ?_)
    | (show condGo ..; first | refine cd_t ?_ | refine cd_f ?_ | refine cd_n (fun _ => ?_) (fun _ => ?_) | refine cd_b (fun _ => ?_) (fun _ => ?_))
    | refine th_normal ?_
    | refine th_ret ?_
    | refine th_exit ?_
    | refine th_pan ?_
    | refine bl_normal ?_
    | refine bl_exit ?_
    | refine bl_pass rfl ?_
    | refine bl_ret ?_
    | refine bl_pan ?_
    | (show retQ ..; first | refine rt_ret ?_ | refine rt_normal ?_)
    | refine rs_some ?_)
  all_goals (refine ret_of ?_; unfold has; simp only [*, Bool.not_true, Bool.not_false, Bool.and_true, Bool.true_and, Bool.and_false, Bool.false_and, Bool.or_true, Bool.true_or, Bool.or_false, Bool.false_or, Bool.and_self, Bool.or_self, decide_true, decide_false, Bool.not_not, if_true, if_false, Bool.false_eq_true, eq_self])
theorem pages_meets (m k : Mp) : Pure Try.prog 71 [.agg (Mp.enc m), .agg (Mp.enc k)] (.bool (has m k.va || has k m.va)) := by
  refine pureI (by kernel_rfl) (by simp only [go_sem, *]) (by simp only [go_sem, *]) Try.func71 Try.results71 rfl (by simp [Try.ntmps71]) (by kernel_rfl) ?_
  repeat' (first
    | (show pwOps ..; first | refine pops_nil ?_ | refine pops_n rfl ?_ | refine pops_w' rfl rfl ?_)
    | (show runGo ..; first | refine run_ev rfl rfl ?_ | refine run_call rfl ?_)
    | (show goOn ..; first | refine on_nop ?_ | refine on_new ?_ | refine on_put ?_ | refine on_born ?_ | refine on_grow ?_)
    | (show putGo ..; refine put_box ?_)
    | (show callGo ..; (refine call_pure (r := ?_) ?_ ?_; rotate_left 1; (focus first | exact pages_has _ _)))
    | (show wGo ..; first | refine gw_tt ?_ | refine gw_ff ?_ | refine gw_tf ?_ | refine gw_ft ?_ | refine gw_u ?_ | refine gw_tn (fun _ => ?_) (fun _ => ?_) | refine gw_fn (fun _ => ?_) (fun _ => ?_) | refine gw_tb (fun _ => ?_) (fun _ => ?_) | refine gw_fb (fun _ => ?_) (fun _ => ?_))
    | (show dr ..; first | refine dr_nil ?_ | refine dr_n rfl ?_ | refine dr_w' rfl rfl ?_)
    | (show drGo ..; first | refine dr_ev rfl ?_ | refine dr_call rfl ?_)
    | (show drOn ..; first | refine dn_nop ?_ | refine dn_new ?_ | refine dn_put ?_ | refine dn_born ?_ | refine dn_grow ?_)
    | (show dputGo ..; refine dput_box ?_)
    | (show dcallGo ..; (refine dcall_pure (r := ?_) ?_ ?_; rotate_left 1; (focus first | exact pages_has _ _)))
    | (refine And.intro (by kernel_rfl : okAll _ = true) ?_)
    | (show pwCode ..; first | refine pc_seq ?_ | refine pc_region ?_ | refine pc_draw (by kernel_rfl) ?_ | refine pc_ret ?_ | refine pc_skip ?_ | refine pc_block ?_ | refine pc_exit ?_ | refine pc_cond ?_)
    | (show condGo ..; first | refine cd_t ?_ | refine cd_f ?_ | refine cd_n (fun _ => ?_) (fun _ => ?_) | refine cd_b (fun _ => ?_) (fun _ => ?_))
    | refine th_normal ?_
    | refine th_ret ?_
    | refine th_exit ?_
    | refine th_pan ?_
    | refine bl_normal ?_
    | refine bl_exit ?_
    | refine bl_pass rfl ?_
    | refine bl_ret ?_
    | refine bl_pan ?_
    | (show retQ ..; first | refine rt_ret ?_ | refine rt_normal ?_)
    | refine rs_some ?_)
  all_goals (refine ret_of ?_; simp only [*, Bool.not_true, Bool.not_false, Bool.and_true, Bool.true_and, Bool.and_false, Bool.false_and, Bool.or_true, Bool.true_or, Bool.or_false, Bool.false_or, Bool.and_self, Bool.or_self, decide_true, decide_false, Bool.not_not, if_true, if_false, Bool.false_eq_true, eq_self])
theorem pages_va (m : Mp) : Pure Try.prog 75 [.agg (Mp.enc m)] (.int .i64 m.va) := by
  refine pureI (by kernel_rfl) (by simp only [go_sem, *]) (by simp only [go_sem, *]) Try.func75 Try.results75 rfl (by simp [Try.ntmps75]) (by kernel_rfl) ?_
  repeat' (first
    | (show pwOps ..; first | refine pops_nil ?_ | refine pops_n rfl ?_ | refine pops_w' rfl rfl ?_)
    | (show runGo ..; first | refine run_ev rfl rfl ?_ | refine run_call rfl ?_)
    | (show goOn ..; first | refine on_nop ?_ | refine on_new ?_ | refine on_put ?_ | refine on_born ?_ | refine on_grow ?_)
    | (show putGo ..; refine put_box ?_)
    | (show wGo ..; first | refine gw_tt ?_ | refine gw_ff ?_ | refine gw_tf ?_ | refine gw_ft ?_ | refine gw_u ?_ | refine gw_tn (fun _ => ?_) (fun _ => ?_) | refine gw_fn (fun _ => ?_) (fun _ => ?_) | refine gw_tb (fun _ => ?_) (fun _ => ?_) | refine gw_fb (fun _ => ?_) (fun _ => ?_))
    | (show dr ..; first | refine dr_nil ?_ | refine dr_n rfl ?_ | refine dr_w' rfl rfl ?_)
    | (show drGo ..; first | refine dr_ev rfl ?_ | refine dr_call rfl ?_)
    | (show drOn ..; first | refine dn_nop ?_ | refine dn_new ?_ | refine dn_put ?_ | refine dn_born ?_ | refine dn_grow ?_)
    | (show dputGo ..; refine dput_box ?_)
    | (refine And.intro (by kernel_rfl : okAll _ = true) ?_)
    | (show pwCode ..; first | refine pc_seq ?_ | refine pc_region ?_ | refine pc_draw (by kernel_rfl) ?_ | refine pc_ret ?_ | refine pc_skip ?_ | refine pc_block ?_ | refine pc_exit ?_ | refine pc_cond ?_)
    | (show condGo ..; first | refine cd_t ?_ | refine cd_f ?_ | refine cd_n (fun _ => ?_) (fun _ => ?_) | refine cd_b (fun _ => ?_) (fun _ => ?_))
    | refine th_normal ?_
    | refine th_ret ?_
    | refine th_exit ?_
    | refine th_pan ?_
    | refine bl_normal ?_
    | refine bl_exit ?_
    | refine bl_pass rfl ?_
    | refine bl_ret ?_
    | refine bl_pan ?_
    | (show retQ ..; first | refine rt_ret ?_ | refine rt_normal ?_)
    | refine rs_some ?_)
  all_goals rfl
def pgAt (l : List Mp) (k : Nat) : Bool := match l[k]? with
  | none => true
  | some x => good x && (match k with
    | 0 => true
    | j + 1 => match l[j]? with
      | some y => !decide (IntKind.i64.wrap (y.va + y.n) > x.va)
      | none => true)
def pgFit (l : List Mp) : Bool := allB l.length (pgAt l) && decide (l.length ≤ 16)
theorem pages_fit (l : List Mp) (hl : l.length ≤ 9223372036854775807) : Pure Try.prog 45 [.sl (l.map Mp.enc)] (.bool (pgFit l)) := by
  refine pureI (by kernel_rfl) (by simp only [go_sem, *]) (by simp only [go_sem, *]) Try.func45 Try.results45 rfl (by simp [Try.ntmps45]) (by kernel_rfl) ?_
  repeat' (first
    | (show pwOps ..; first | refine pops_nil ?_ | refine pops_n rfl ?_ | refine pops_w' rfl rfl ?_)
    | (show runGo ..; first | refine run_ev rfl rfl ?_ | refine run_call rfl ?_)
    | (show goOn ..; first | refine on_nop ?_ | refine on_new ?_ | refine on_put ?_ | refine on_born ?_ | refine on_grow ?_)
    | (show putGo ..; refine put_box ?_)
    | (show wGo ..; first | refine gw_tt ?_ | refine gw_ff ?_ | refine gw_tf ?_ | refine gw_ft ?_ | refine gw_u ?_ | refine gw_tn (fun _ => ?_) (fun _ => ?_) | refine gw_fn (fun _ => ?_) (fun _ => ?_) | refine gw_tb (fun _ => ?_) (fun _ => ?_) | refine gw_fb (fun _ => ?_) (fun _ => ?_))
    | (show dr ..; first | refine dr_nil ?_ | refine dr_n rfl ?_ | refine dr_w' rfl rfl ?_)
    | (show drGo ..; first | refine dr_ev rfl ?_ | refine dr_call rfl ?_)
    | (show drOn ..; first | refine dn_nop ?_ | refine dn_new ?_ | refine dn_put ?_ | refine dn_born ?_ | refine dn_grow ?_)
    | (show dputGo ..; refine dput_box ?_)
    | (refine And.intro (by kernel_rfl : okAll _ = true) ?_)
    | (show pwCode ..; first | refine pc_seq ?_ | refine pc_region ?_ | refine pc_draw (by kernel_rfl) ?_ | refine pc_ret ?_ | refine pc_skip ?_ | refine pc_block ?_ | refine pc_exit ?_ | refine pc_cond ?_)
    | (show condGo ..; first | refine cd_t ?_ | refine cd_f ?_ | refine cd_n (fun _ => ?_) (fun _ => ?_) | refine cd_b (fun _ => ?_) (fun _ => ?_))
    | refine th_normal ?_
    | refine th_ret ?_
    | refine th_exit ?_
    | refine th_pan ?_
    | refine bl_normal ?_
    | refine bl_exit ?_
    | refine bl_pass rfl ?_
    | refine bl_ret ?_
    | refine bl_pan ?_
    | (show retQ ..; first | refine rt_ret ?_ | refine rt_normal ?_)
    | refine rs_some ?_)
  refine pc_loop (S := Nat) (fun n => l.length - n) (fun n => n ≤ l.length ∧ ∀ j, j < n → pgAt l j = true) (fun n => [(0, .sl (l.map Mp.enc)), (5, .sl (l.map Mp.enc)), (6, .int .i64 l.length), (7, .int .i64 n)]) (fun _ => []) (fun _ => 0) 0 ⟨Nat.zero_le _, fun j hj => absurd hj (Nat.not_lt_zero j)⟩ (by (refine keepI ?_ ?_ <;> repeat' (first | exact ke_nil | exact kg_nil | refine ke_cons (by (try simp only [go_sem, *]); try rfl) (by simp only [go_sem, *]) ?_ | refine kg_box (by (try simp only [go_sem, *]); try rfl) (by omega) (by simp only [go_sem, *]) ?_ | refine kg_row (by (try simp only [go_sem, *]); try rfl) (by omega) (by simp only [go_sem, *]) ?_))) ?_
  rintro n ⟨hn, hs⟩
  have fin : allB l.length (pgAt l) = false → false = pgFit l := fun hb => by unfold pgFit; rw [hb]; rfl
  rcases Nat.lt_or_ge n l.length with hlt | hge
  · obtain ⟨x, hx⟩ := lt_len hlt
    have h0 := lt_true hlt
    have h4 := wrap_nat n (by omega)
    cases n with
    | zero =>
      have e : pgAt l 0 = (good x && true) := by unfold pgAt; rw [hx]
      repeat' (first
    | (show pwOps ..; first | refine pops_nil ?_ | refine pops_n rfl ?_ | refine pops_w' rfl rfl ?_)
    | (show runGo ..; first | refine run_ev rfl rfl ?_ | refine run_call rfl ?_)
    | (show goOn ..; first | refine on_nop ?_ | refine on_new ?_ | refine on_put ?_ | refine on_born ?_ | refine on_grow ?_)
    | (show putGo ..; refine put_box ?_)
    | (show callGo ..; (refine call_pure (r := ?_) ?_ ?_; rotate_left 1; (focus first | exact pages_good _ | exact pages_end _)))
    | (show wGo ..; first | refine gw_tt ?_ | refine gw_ff ?_ | refine gw_tf ?_ | refine gw_ft ?_ | refine gw_u ?_ | refine gw_tn (fun _ => ?_) (fun _ => ?_) | refine gw_fn (fun _ => ?_) (fun _ => ?_) | refine gw_tb (fun _ => ?_) (fun _ => ?_) | refine gw_fb (fun _ => ?_) (fun _ => ?_))
    | (show dr ..; first | refine dr_nil ?_ | refine dr_n rfl ?_ | refine dr_w' rfl rfl ?_)
    | (show drGo ..; first | refine dr_ev rfl ?_ | refine dr_call rfl ?_)
    | (show drOn ..; first | refine dn_nop ?_ | refine dn_new ?_ | refine dn_put ?_ | refine dn_born ?_ | refine dn_grow ?_)
    | (show dputGo ..; refine dput_box ?_)
    | (show dcallGo ..; (refine dcall_pure (r := ?_) ?_ ?_; rotate_left 1; (focus first | exact pages_good _ | exact pages_end _)))
    | (refine And.intro (by kernel_rfl : okAll _ = true) ?_)
    | (show pwCode ..; first | refine pc_seq ?_ | refine pc_region ?_ | refine pc_draw (by kernel_rfl) ?_ | refine pc_ret ?_ | refine pc_skip ?_ | refine pc_block ?_ | refine pc_exit ?_ | refine pc_cond ?_)
    | (show condGo ..; first | refine cd_t ?_ | refine cd_f ?_ | refine cd_n (fun _ => ?_) (fun _ => ?_) | refine cd_b (fun _ => ?_) (fun _ => ?_))
    | refine th_normal ?_
    | refine th_ret ?_
    | refine th_exit ?_
    | refine th_pan ?_
    | refine bl_normal ?_
    | refine bl_exit ?_
    | refine bl_pass rfl ?_
    | refine bl_ret ?_
    | refine bl_pan ?_
    | (show retQ ..; first | refine rt_ret ?_ | refine rt_normal ?_)
    | refine rs_some ?_)
      all_goals first
        | (refine ret_of (fin (allB_false hlt ?_)); simp only [*, Bool.not_true, Bool.not_false, Bool.and_true, Bool.true_and, Bool.and_false, Bool.false_and, Bool.or_true, Bool.true_or, Bool.or_false, Bool.false_or, Bool.and_self, Bool.or_self, decide_true, decide_false, Bool.not_not, if_true, if_false, Bool.false_eq_true, eq_self])
        | (refine again (0 + 1) ⟨?_, up_to hs ?_⟩ ?_ (by (refine keepI ?_ ?_ <;> repeat' (first | exact ke_nil | exact kg_nil | refine ke_cons (by (try simp only [go_sem, *]); try rfl) (by simp only [go_sem, *]) ?_ | refine kg_box (by (try simp only [go_sem, *]); try rfl) (by omega) (by simp only [go_sem, *]) ?_ | refine kg_row (by (try simp only [go_sem, *]); try rfl) (by omega) (by simp only [go_sem, *]) ?_))); (focus omega); (focus simp only [*, Bool.not_true, Bool.not_false, Bool.and_true, Bool.true_and, Bool.and_false, Bool.false_and, Bool.or_true, Bool.true_or, Bool.or_false, Bool.false_or, Bool.and_self, Bool.or_self, decide_true, decide_false, Bool.not_not, if_true, if_false, Bool.false_eq_true, eq_self]); (focus omega))
    | succ j =>
      obtain ⟨y, hy⟩ := lt_len (by omega : j < l.length)
      have h5 := wrap_prev j (by omega)
      have h6 := gt_prev j
      have e : pgAt l (j + 1) = (good x && !decide (IntKind.i64.wrap (y.va + y.n) > x.va)) := by unfold pgAt; rw [hx]; simp only [hy]
      repeat' (first
    | (show pwOps ..; first | refine pops_nil ?_ | refine pops_n rfl ?_ | refine pops_w' rfl rfl ?_)
    | (show runGo ..; first | refine run_ev rfl rfl ?_ | refine run_call rfl ?_)
    | (show goOn ..; first | refine on_nop ?_ | refine on_new ?_ | refine on_put ?_ | refine on_born ?_ | refine on_grow ?_)
    | (show putGo ..; refine put_box ?_)
    | (show callGo ..; (refine call_pure (r := ?_) ?_ ?_; rotate_left 1; (focus first | exact pages_good _ | exact pages_end _)))
    | (show wGo ..; first | refine gw_tt ?_ | refine gw_ff ?_ | refine gw_tf ?_ | refine gw_ft ?_ | refine gw_u ?_ | refine gw_tn (fun _ => ?_) (fun _ => ?_) | refine gw_fn (fun _ => ?_) (fun _ => ?_) | refine gw_tb (fun _ => ?_) (fun _ => ?_) | refine gw_fb (fun _ => ?_) (fun _ => ?_))
    | (show dr ..; first | refine dr_nil ?_ | refine dr_n rfl ?_ | refine dr_w' rfl rfl ?_)
    | (show drGo ..; first | refine dr_ev rfl ?_ | refine dr_call rfl ?_)
    | (show drOn ..; first | refine dn_nop ?_ | refine dn_new ?_ | refine dn_put ?_ | refine dn_born ?_ | refine dn_grow ?_)
    | (show dputGo ..; refine dput_box ?_)
    | (show dcallGo ..; (refine dcall_pure (r := ?_) ?_ ?_; rotate_left 1; (focus first | exact pages_good _ | exact pages_end _)))
    | (refine And.intro (by kernel_rfl : okAll _ = true) ?_)
    | (show pwCode ..; first | refine pc_seq ?_ | refine pc_region ?_ | refine pc_draw (by kernel_rfl) ?_ | refine pc_ret ?_ | refine pc_skip ?_ | refine pc_block ?_ | refine pc_exit ?_ | refine pc_cond ?_)
    | (show condGo ..; first | refine cd_t ?_ | refine cd_f ?_ | refine cd_n (fun _ => ?_) (fun _ => ?_) | refine cd_b (fun _ => ?_) (fun _ => ?_))
    | refine th_normal ?_
    | refine th_ret ?_
    | refine th_exit ?_
    | refine th_pan ?_
    | refine bl_normal ?_
    | refine bl_exit ?_
    | refine bl_pass rfl ?_
    | refine bl_ret ?_
    | refine bl_pan ?_
    | (show retQ ..; first | refine rt_ret ?_ | refine rt_normal ?_)
    | refine rs_some ?_)
      all_goals first
        | (refine ret_of (fin (allB_false hlt ?_)); simp only [*, Bool.not_true, Bool.not_false, Bool.and_true, Bool.true_and, Bool.and_false, Bool.false_and, Bool.or_true, Bool.true_or, Bool.or_false, Bool.false_or, Bool.and_self, Bool.or_self, decide_true, decide_false, Bool.not_not, if_true, if_false, Bool.false_eq_true, eq_self])
        | (refine again (j + 1 + 1) ⟨?_, up_to hs ?_⟩ ?_ (by (refine keepI ?_ ?_ <;> repeat' (first | exact ke_nil | exact kg_nil | refine ke_cons (by (try simp only [go_sem, *]); try rfl) (by simp only [go_sem, *]) ?_ | refine kg_box (by (try simp only [go_sem, *]); try rfl) (by omega) (by simp only [go_sem, *]) ?_ | refine kg_row (by (try simp only [go_sem, *]); try rfl) (by omega) (by simp only [go_sem, *]) ?_))); (focus omega); (focus simp only [*, Bool.not_true, Bool.not_false, Bool.and_true, Bool.true_and, Bool.and_false, Bool.false_and, Bool.or_true, Bool.true_or, Bool.or_false, Bool.false_or, Bool.and_self, Bool.or_self, decide_true, decide_false, Bool.not_not, if_true, if_false, Bool.false_eq_true, eq_self]); (focus omega))
  · have h0 := lt_false hge
    have hall : allB l.length (pgAt l) = true := allB_true fun j hj => hs j (by omega)
    have hle : decide ((l.length : Int) ≤ 16) = decide (l.length ≤ 16) := by simp; omega
    repeat' (first
    | (show pwOps ..; first | refine pops_nil ?_ | refine pops_n rfl ?_ | refine pops_w' rfl rfl ?_)
    | (show runGo ..; first | refine run_ev rfl rfl ?_ | refine run_call rfl ?_)
    | (show goOn ..; first | refine on_nop ?_ | refine on_new ?_ | refine on_put ?_ | refine on_born ?_ | refine on_grow ?_)
    | (show putGo ..; refine put_box ?_)
    | (show wGo ..; first | refine gw_tt ?_ | refine gw_ff ?_ | refine gw_tf ?_ | refine gw_ft ?_ | refine gw_u ?_ | refine gw_tn (fun _ => ?_) (fun _ => ?_) | refine gw_fn (fun _ => ?_) (fun _ => ?_) | refine gw_tb (fun _ => ?_) (fun _ => ?_) | refine gw_fb (fun _ => ?_) (fun _ => ?_))
    | (show dr ..; first | refine dr_nil ?_ | refine dr_n rfl ?_ | refine dr_w' rfl rfl ?_)
    | (show drGo ..; first | refine dr_ev rfl ?_ | refine dr_call rfl ?_)
    | (show drOn ..; first | refine dn_nop ?_ | refine dn_new ?_ | refine dn_put ?_ | refine dn_born ?_ | refine dn_grow ?_)
    | (show dputGo ..; refine dput_box ?_)
    | (refine And.intro (by kernel_rfl : okAll _ = true) ?_)
    | (show pwCode ..; first | refine pc_seq ?_ | refine pc_region ?_ | refine pc_draw (by kernel_rfl) ?_ | refine pc_ret ?_ | refine pc_skip ?_ | refine pc_block ?_ | refine pc_exit ?_ | refine pc_cond ?_)
    | (show condGo ..; first | refine cd_t ?_ | refine cd_f ?_ | refine cd_n (fun _ => ?_) (fun _ => ?_) | refine cd_b (fun _ => ?_) (fun _ => ?_))
    | refine th_normal ?_
    | refine th_ret ?_
    | refine th_exit ?_
    | refine th_pan ?_
    | refine bl_normal ?_
    | refine bl_exit ?_
    | refine bl_pass rfl ?_
    | refine bl_ret ?_
    | refine bl_pan ?_
    | (show retQ ..; first | refine rt_ret ?_ | refine rt_normal ?_)
    | refine rs_some ?_)
    refine ret_of ?_; unfold pgFit; simp only [*, Bool.not_true, Bool.not_false, Bool.and_true, Bool.true_and, Bool.and_false, Bool.false_and, Bool.or_true, Bool.true_or, Bool.or_false, Bool.false_or, Bool.and_self, Bool.or_self, decide_true, decide_false, Bool.not_not, if_true, if_false, Bool.false_eq_true, eq_self]
end Go.Proofs.Ytggkjfllbfcagaa
end

section
namespace Go.Proofs.Ytggkjfllbfcagaa
open Go Go.RowKit
set_option linter.unusedVariables false
set_option linter.unusedSimpArgs false
set_option maxHeartbeats 16000000
set_option maxRecDepth 100000
@[go_sem] theorem ne_succ (n : Nat) : (n = n + 1) = False := by simp
attribute [local irreducible] pwOps dr pwCode Ex.then Ex.inBlock retQ okAll drawOk Pure CSat evOp calleeP rdOf upd hset strip sp0 cut envL heapL Again Keep BdL evBs AgainK KeepK
/-! obj: which objects can be. -/
theorem label_owned (l : List Pr) (hl : l.length ≤ 900000) : Pure Try.prog 136 [.sl (l.map Pr.enc)] (.sl ((own l).map u64)) := by
  refine pureI (by kernel_rfl) (by simp only [go_sem, *]) (by simp only [go_sem, *]) Try.func136 Try.results136 rfl (by simp [Try.ntmps136]) (by kernel_rfl) ?_
  repeat' (first
    | (show pwOps ..; first | refine pops_nil ?_ | refine pops_n rfl ?_ | refine pops_w' rfl rfl ?_)
    | (show runGo ..; first | refine run_ev rfl rfl ?_ | refine run_call rfl ?_)
    | (show goOn ..; first | refine on_nop ?_ | refine on_new ?_ | refine on_put ?_ | refine on_born ?_ | refine on_grow ?_)
    | (show putGo ..; refine put_box ?_)
    | (show wGo ..; first | refine gw_tt ?_ | refine gw_ff ?_ | refine gw_tf ?_ | refine gw_ft ?_ | refine gw_u ?_ | refine gw_tn (fun _ => ?_) (fun _ => ?_) | refine gw_fn (fun _ => ?_) (fun _ => ?_) | refine gw_tb (fun _ => ?_) (fun _ => ?_) | refine gw_fb (fun _ => ?_) (fun _ => ?_))
    | (show dr ..; first | refine dr_nil ?_ | refine dr_n rfl ?_ | refine dr_w' rfl rfl ?_)
    | (show drGo ..; first | refine dr_ev rfl ?_ | refine dr_call rfl ?_)
    | (show drOn ..; first | refine dn_nop ?_ | refine dn_new ?_ | refine dn_put ?_ | refine dn_born ?_ | refine dn_grow ?_)
    | (show dputGo ..; refine dput_box ?_)
    | (refine And.intro (by kernel_rfl : okAll _ = true) ?_)
    | (show pwCode ..; first | refine pc_seq ?_ | refine pc_region ?_ | refine pc_draw (by kernel_rfl) ?_ | refine pc_ret ?_ | refine pc_skip ?_ | refine pc_block ?_ | refine pc_exit ?_ | refine pc_cond ?_)
    | (show condGo ..; first | refine cd_t ?_ | refine cd_f ?_ | refine cd_n (fun _ => ?_) (fun _ => ?_) | refine cd_b (fun _ => ?_) (fun _ => ?_))
    | refine th_normal ?_
    | refine th_ret ?_
    | refine th_exit ?_
    | refine th_pan ?_
    | refine bl_normal ?_
    | refine bl_exit ?_
    | refine bl_pass rfl ?_
    | refine bl_ret ?_
    | refine bl_pan ?_
    | (show retQ ..; first | refine rt_ret ?_ | refine rt_normal ?_)
    | refine rs_some ?_)
  refine pc_loop (S := Nat × List Int × Nat) (fun s => l.length - s.1) (fun s => s.1 ≤ l.length ∧ own (l.take s.1) = s.2.1) (fun s => [(3, accV s.2.2 s.2.1), (6, .sl (l.map Pr.enc)), (7, .int .i64 l.length), (8, .int .i64 s.1)]) (fun s => accG s.2.2 22 1 u64 s.2.1) (fun s => accM 0 s.2.2 s.2.1) (0, [], 0) ⟨Nat.zero_le _, rfl⟩ (by simp only [accV_nil, accG_nil, accM_nil]; (refine keepI ?_ ?_ <;> repeat' (first | exact ke_nil | exact kg_nil | refine ke_cons (by (try simp only [go_sem, *]); try rfl) (by simp only [go_sem, *]) ?_ | refine kg_box (by (try simp only [go_sem, *]); try rfl) (by omega) (by simp only [go_sem, *]) ?_ | refine kg_row (by (try simp only [go_sem, *]); try rfl) (by omega) (by simp only [go_sem, *]) ?_))) ?_
  rintro ⟨n, acc, id⟩ ⟨hn, hs⟩
  simp only at hn hs
  have ha : acc.length < 1000000 := by rw [← hs]; have := own_len (l.take n); have := List.length_take_le n l; simp only [List.length_take] at *; omega
  have hb1 := app_max ha
  have hb2 := app_by (b := 8) ha (by decide)
  rcases Nat.lt_or_ge n l.length with hlt | hge
  · obtain ⟨x, hx⟩ := lt_len hlt
    have h0 := lt_true hlt
    have h4 := wrap_nat n (by omega)
    rcases or_nil acc with hnil | hne
    · subst hnil
      simp only [accV_nil, accG_nil, accM_nil]
      repeat' (first
    | (show pwOps ..; first | refine pops_nil ?_ | refine pops_n rfl ?_ | refine pops_w' rfl rfl ?_)
    | (show runGo ..; first | refine run_ev rfl rfl ?_ | refine run_call rfl ?_)
    | (show goOn ..; first | refine on_nop ?_ | refine on_new ?_ | refine on_put ?_ | refine on_born ?_ | refine on_grow ?_)
    | (show putGo ..; refine put_box ?_)
    | (show wGo ..; first | refine gw_tt ?_ | refine gw_ff ?_ | refine gw_tf ?_ | refine gw_ft ?_ | refine gw_u ?_ | refine gw_tn (fun _ => ?_) (fun _ => ?_) | refine gw_fn (fun _ => ?_) (fun _ => ?_) | refine gw_tb (fun _ => ?_) (fun _ => ?_) | refine gw_fb (fun _ => ?_) (fun _ => ?_))
    | (show dr ..; first | refine dr_nil ?_ | refine dr_n rfl ?_ | refine dr_w' rfl rfl ?_)
    | (show drGo ..; first | refine dr_ev rfl ?_ | refine dr_call rfl ?_)
    | (show drOn ..; first | refine dn_nop ?_ | refine dn_new ?_ | refine dn_put ?_ | refine dn_born ?_ | refine dn_grow ?_)
    | (show dputGo ..; refine dput_box ?_)
    | (refine And.intro (by kernel_rfl : okAll _ = true) ?_)
    | (show pwCode ..; first | refine pc_seq ?_ | refine pc_region ?_ | refine pc_draw (by kernel_rfl) ?_ | refine pc_ret ?_ | refine pc_skip ?_ | refine pc_block ?_ | refine pc_exit ?_ | refine pc_cond ?_)
    | (show condGo ..; first | refine cd_t ?_ | refine cd_f ?_ | refine cd_n (fun _ => ?_) (fun _ => ?_) | refine cd_b (fun _ => ?_) (fun _ => ?_))
    | refine th_normal ?_
    | refine th_ret ?_
    | refine th_exit ?_
    | refine th_pan ?_
    | refine bl_normal ?_
    | refine bl_exit ?_
    | refine bl_pass rfl ?_
    | refine bl_ret ?_
    | refine bl_pan ?_
    | (show retQ ..; first | refine rt_ret ?_ | refine rt_normal ?_)
    | refine rs_some ?_)
      all_goals rename_i hc
      · refine again (n + 1, [] ++ [x.cat], 1) ⟨hlt, by rw [own_yes hx hc, hs]⟩ (by simp only; omega) ?_
        simp only [accV_snoc, accG_snoc, accM_snoc]
        (refine keepI ?_ ?_ <;> repeat' (first | exact ke_nil | exact kg_nil | refine ke_cons (by (try simp only [go_sem, *]); try rfl) (by simp only [go_sem, *]) ?_ | refine kg_box (by (try simp only [go_sem, *]); try rfl) (by omega) (by simp only [go_sem, *]) ?_ | refine kg_row (by (try simp only [go_sem, *]); try rfl) (by omega) (by simp only [go_sem, *]) ?_))
      · refine again (n + 1, [], 0) ⟨hlt, by rw [own_no hx hc, hs]⟩ (by simp only; omega) ?_
        simp only [accV_nil, accG_nil, accM_nil]
        (refine keepI ?_ ?_ <;> repeat' (first | exact ke_nil | exact kg_nil | refine ke_cons (by (try simp only [go_sem, *]); try rfl) (by simp only [go_sem, *]) ?_ | refine kg_box (by (try simp only [go_sem, *]); try rfl) (by omega) (by simp only [go_sem, *]) ?_ | refine kg_row (by (try simp only [go_sem, *]); try rfl) (by omega) (by simp only [go_sem, *]) ?_))
    · simp only [accV_ne hne, accG_ne hne, accM_ne hne]
      repeat' (first
    | (show pwOps ..; first | refine pops_nil ?_ | refine pops_n rfl ?_ | refine pops_w' rfl rfl ?_)
    | (show runGo ..; first | refine run_ev rfl rfl ?_ | refine run_call rfl ?_)
    | (show goOn ..; first | refine on_nop ?_ | refine on_new ?_ | refine on_put ?_ | refine on_born ?_ | refine on_grow ?_)
    | (show putGo ..; refine put_box ?_)
    | (show wGo ..; first | refine gw_tt ?_ | refine gw_ff ?_ | refine gw_tf ?_ | refine gw_ft ?_ | refine gw_u ?_ | refine gw_tn (fun _ => ?_) (fun _ => ?_) | refine gw_fn (fun _ => ?_) (fun _ => ?_) | refine gw_tb (fun _ => ?_) (fun _ => ?_) | refine gw_fb (fun _ => ?_) (fun _ => ?_))
    | (show dr ..; first | refine dr_nil ?_ | refine dr_n rfl ?_ | refine dr_w' rfl rfl ?_)
    | (show drGo ..; first | refine dr_ev rfl ?_ | refine dr_call rfl ?_)
    | (show drOn ..; first | refine dn_nop ?_ | refine dn_new ?_ | refine dn_put ?_ | refine dn_born ?_ | refine dn_grow ?_)
    | (show dputGo ..; refine dput_box ?_)
    | (refine And.intro (by kernel_rfl : okAll _ = true) ?_)
    | (show pwCode ..; first | refine pc_seq ?_ | refine pc_region ?_ | refine pc_draw (by kernel_rfl) ?_ | refine pc_ret ?_ | refine pc_skip ?_ | refine pc_block ?_ | refine pc_exit ?_ | refine pc_cond ?_)
    | (show condGo ..; first | refine cd_t ?_ | refine cd_f ?_ | refine cd_n (fun _ => ?_) (fun _ => ?_) | refine cd_b (fun _ => ?_) (fun _ => ?_))
    | refine th_normal ?_
    | refine th_ret ?_
    | refine th_exit ?_
    | refine th_pan ?_
    | refine bl_normal ?_
    | refine bl_exit ?_
    | refine bl_pass rfl ?_
    | refine bl_ret ?_
    | refine bl_pan ?_
    | (show retQ ..; first | refine rt_ret ?_ | refine rt_normal ?_)
    | refine rs_some ?_)
      all_goals rename_i hc
      · refine again (n + 1, acc ++ [x.cat], id) ⟨hlt, by rw [own_yes hx hc, hs]⟩ (by simp only; omega) ?_
        simp only [accV_snoc, accG_snoc, accM_snoc]
        (refine keepI ?_ ?_ <;> repeat' (first | exact ke_nil | exact kg_nil | refine ke_cons (by (try simp only [go_sem, *]); try rfl) (by simp only [go_sem, *]) ?_ | refine kg_box (by (try simp only [go_sem, *]); try rfl) (by omega) (by simp only [go_sem, *]) ?_ | refine kg_row (by (try simp only [go_sem, *]); try rfl) (by omega) (by simp only [go_sem, *]) ?_))
      · refine again (n + 1, acc, id) ⟨hlt, by rw [own_no hx hc, hs]⟩ (by simp only; omega) ?_
        simp only [accV_ne hne, accG_ne hne, accM_ne hne]
        (refine keepI ?_ ?_ <;> repeat' (first | exact ke_nil | exact kg_nil | refine ke_cons (by (try simp only [go_sem, *]); try rfl) (by simp only [go_sem, *]) ?_ | refine kg_box (by (try simp only [go_sem, *]); try rfl) (by omega) (by simp only [go_sem, *]) ?_ | refine kg_row (by (try simp only [go_sem, *]); try rfl) (by omega) (by simp only [go_sem, *]) ?_))
  · have h0 := lt_false hge
    have hs' : own l = acc := by rw [← hs, List.take_of_length_le hge]
    rcases or_nil acc with hnil | hne
    · subst hnil
      simp only [accV_nil, accG_nil, accM_nil]
      repeat' (first
    | (show pwOps ..; first | refine pops_nil ?_ | refine pops_n rfl ?_ | refine pops_w' rfl rfl ?_)
    | (show runGo ..; first | refine run_ev rfl rfl ?_ | refine run_call rfl ?_)
    | (show goOn ..; first | refine on_nop ?_ | refine on_new ?_ | refine on_put ?_ | refine on_born ?_ | refine on_grow ?_)
    | (show putGo ..; refine put_box ?_)
    | (show wGo ..; first | refine gw_tt ?_ | refine gw_ff ?_ | refine gw_tf ?_ | refine gw_ft ?_ | refine gw_u ?_ | refine gw_tn (fun _ => ?_) (fun _ => ?_) | refine gw_fn (fun _ => ?_) (fun _ => ?_) | refine gw_tb (fun _ => ?_) (fun _ => ?_) | refine gw_fb (fun _ => ?_) (fun _ => ?_))
    | (show dr ..; first | refine dr_nil ?_ | refine dr_n rfl ?_ | refine dr_w' rfl rfl ?_)
    | (show drGo ..; first | refine dr_ev rfl ?_ | refine dr_call rfl ?_)
    | (show drOn ..; first | refine dn_nop ?_ | refine dn_new ?_ | refine dn_put ?_ | refine dn_born ?_ | refine dn_grow ?_)
    | (show dputGo ..; refine dput_box ?_)
    | (refine And.intro (by kernel_rfl : okAll _ = true) ?_)
    | (show pwCode ..; first | refine pc_seq ?_ | refine pc_region ?_ | refine pc_draw (by kernel_rfl) ?_ | refine pc_ret ?_ | refine pc_skip ?_ | refine pc_block ?_ | refine pc_exit ?_ | refine pc_cond ?_)
    | (show condGo ..; first | refine cd_t ?_ | refine cd_f ?_ | refine cd_n (fun _ => ?_) (fun _ => ?_) | refine cd_b (fun _ => ?_) (fun _ => ?_))
    | refine th_normal ?_
    | refine th_ret ?_
    | refine th_exit ?_
    | refine th_pan ?_
    | refine bl_normal ?_
    | refine bl_exit ?_
    | refine bl_pass rfl ?_
    | refine bl_ret ?_
    | refine bl_pan ?_
    | (show retQ ..; first | refine rt_ret ?_ | refine rt_normal ?_)
    | refine rs_some ?_)
      rw [hs']; rfl
    · simp only [accV_ne hne, accG_ne hne, accM_ne hne]
      repeat' (first
    | (show pwOps ..; first | refine pops_nil ?_ | refine pops_n rfl ?_ | refine pops_w' rfl rfl ?_)
    | (show runGo ..; first | refine run_ev rfl rfl ?_ | refine run_call rfl ?_)
    | (show goOn ..; first | refine on_nop ?_ | refine on_new ?_ | refine on_put ?_ | refine on_born ?_ | refine on_grow ?_)
    | (show putGo ..; refine put_box ?_)
    | (show wGo ..; first | refine gw_tt ?_ | refine gw_ff ?_ | refine gw_tf ?_ | refine gw_ft ?_ | refine gw_u ?_ | refine gw_tn (fun _ => ?_) (fun _ => ?_) | refine gw_fn (fun _ => ?_) (fun _ => ?_) | refine gw_tb (fun _ => ?_) (fun _ => ?_) | refine gw_fb (fun _ => ?_) (fun _ => ?_))
    | (show dr ..; first | refine dr_nil ?_ | refine dr_n rfl ?_ | refine dr_w' rfl rfl ?_)
    | (show drGo ..; first | refine dr_ev rfl ?_ | refine dr_call rfl ?_)
    | (show drOn ..; first | refine dn_nop ?_ | refine dn_new ?_ | refine dn_put ?_ | refine dn_born ?_ | refine dn_grow ?_)
    | (show dputGo ..; refine dput_box ?_)
    | (refine And.intro (by kernel_rfl : okAll _ = true) ?_)
    | (show pwCode ..; first | refine pc_seq ?_ | refine pc_region ?_ | refine pc_draw (by kernel_rfl) ?_ | refine pc_ret ?_ | refine pc_skip ?_ | refine pc_block ?_ | refine pc_exit ?_ | refine pc_cond ?_)
    | (show condGo ..; first | refine cd_t ?_ | refine cd_f ?_ | refine cd_n (fun _ => ?_) (fun _ => ?_) | refine cd_b (fun _ => ?_) (fun _ => ?_))
    | refine th_normal ?_
    | refine th_ret ?_
    | refine th_exit ?_
    | refine th_pan ?_
    | refine bl_normal ?_
    | refine bl_exit ?_
    | refine bl_pass rfl ?_
    | refine bl_ret ?_
    | refine bl_pan ?_
    | (show retQ ..; first | refine rt_ret ?_ | refine rt_normal ?_)
    | refine rs_some ?_)
      rw [hs']
def innerO (o : Ob) : Bool :=
  if (o.kind == 1) = true then decide ((o.data.length : Int) ≤ IntKind.i64.wrap (IntKind.i64.wrap (o.quota - 1) * 16))
  else if (o.kind == 2) = true then decide ((o.links.length : Int) ≤ 64) && (allB (o.links.length - 1) (upAt (fun x => x) o.links) && !o.links.any (fun n => !idOk n))
  else if (o.kind == 3) = true then pgFit o.maps
  else if (o.kind == 4) = true then thFitO o
  else if (o.kind == 5) = true then kept o.gate.grant && (kept o.gate.clear && labLeq o.gate.grant o.gate.clear)
  else decide ((o.inn.length : Int) ≤ 64) && decide ((o.out.length : Int) ≤ 1024)
theorem obj_inner (o : Ob) (ha : o.L) (hl : o.label.length ≤ 900000) : Pure Try.prog 139 [.agg (Ob.enc o)] (.bool (innerO o)) := by
  refine pureI (by kernel_rfl) (by simp only [go_sem, *]) (by simp only [go_sem, *]) Try.func139 Try.results139 rfl (by simp [Try.ntmps139]) (by kernel_rfl) ?_
  obtain ⟨l1, l2, l3, l4, l5, ⟨g1, g2⟩, l7, l8⟩ := id ha
  have hL : kept o.gate.grant = true → kept o.gate.clear = true → Pure Try.prog 130 [.sl (o.gate.grant.map Pr.enc), .sl (o.gate.clear.map Pr.enc)] (.bool (labLeq o.gate.grant o.gate.clear)) := fun h k => label_leq _ _ (by have := kept_len h; have := kept_len k; omega)
  have hR := risingU o.links l2 166 (fun x => x) (by kernel_rfl) (fun x _ => obj_same x)
  have hC := cfU o.links l2 168 (fun n => !idOk n) (by kernel_rfl) (fun x _ => inner1 x)
  repeat' (first
    | (show pwOps ..; first | refine pops_nil ?_ | refine pops_n rfl ?_ | refine pops_w' rfl rfl ?_)
    | (show runGo ..; first | refine run_ev rfl rfl ?_ | refine run_call rfl ?_)
    | (show goOn ..; first | refine on_nop ?_ | refine on_new ?_ | refine on_put ?_ | refine on_born ?_ | refine on_grow ?_)
    | (show putGo ..; refine put_box ?_)
    | (show callGo ..; (refine call_pure (r := ?_) ?_ ?_; rotate_left 1; (focus first | exact hR | exact hC | exact pages_fit _ l4 | exact obj_threadSound _ l5 hl | exact obj_kept _ g1 | exact obj_kept _ g2 | exact hL (by assumption) (by assumption))))
    | (show wGo ..; first | refine gw_tt ?_ | refine gw_ff ?_ | refine gw_tf ?_ | refine gw_ft ?_ | refine gw_u ?_ | refine gw_tn (fun _ => ?_) (fun _ => ?_) | refine gw_fn (fun _ => ?_) (fun _ => ?_) | refine gw_tb (fun _ => ?_) (fun _ => ?_) | refine gw_fb (fun _ => ?_) (fun _ => ?_))
    | (show dr ..; first | refine dr_nil ?_ | refine dr_n rfl ?_ | refine dr_w' rfl rfl ?_)
    | (show drGo ..; first | refine dr_ev rfl ?_ | refine dr_call rfl ?_)
    | (show drOn ..; first | refine dn_nop ?_ | refine dn_new ?_ | refine dn_put ?_ | refine dn_born ?_ | refine dn_grow ?_)
    | (show dputGo ..; refine dput_box ?_)
    | (show dcallGo ..; (refine dcall_pure (r := ?_) ?_ ?_; rotate_left 1; (focus first | exact hR | exact hC | exact pages_fit _ l4 | exact obj_threadSound _ l5 hl | exact obj_kept _ g1 | exact obj_kept _ g2 | exact hL (by assumption) (by assumption))))
    | (refine And.intro (by kernel_rfl : okAll _ = true) ?_)
    | (show pwCode ..; first | refine pc_seq ?_ | refine pc_region ?_ | refine pc_draw (by kernel_rfl) ?_ | refine pc_ret ?_ | refine pc_skip ?_ | refine pc_block ?_ | refine pc_exit ?_ | refine pc_cond ?_)
    | (show condGo ..; first | refine cd_t ?_ | refine cd_f ?_ | refine cd_n (fun _ => ?_) (fun _ => ?_) | refine cd_b (fun _ => ?_) (fun _ => ?_))
    | refine th_normal ?_
    | refine th_ret ?_
    | refine th_exit ?_
    | refine th_pan ?_
    | refine bl_normal ?_
    | refine bl_exit ?_
    | refine bl_pass rfl ?_
    | refine bl_ret ?_
    | refine bl_pan ?_
    | (show retQ ..; first | refine rt_ret ?_ | refine rt_normal ?_)
    | refine rs_some ?_)
  all_goals (refine ret_of ?_; unfold innerO; simp only [*, Bool.not_true, Bool.not_false, Bool.and_true, Bool.true_and, Bool.and_false, Bool.false_and, Bool.or_true, Bool.true_or, Bool.or_false, Bool.false_or, Bool.and_self, Bool.or_self, decide_true, decide_false, Bool.not_not, if_true, if_false, Bool.false_eq_true, eq_self])
def headOf (o : Ob) : Ob := ⟨o.id, o.kind, o.label, o.quota, o.fixed, [], [], [], Th.zero, Gt.zero, [], []⟩
def soundO (o : Ob) : Bool := (idOk o.id && (!decide (o.kind < 1) && !decide (o.kind > 6))) && ((kept o.label && (!decide (o.quota < 1) && !decide (o.quota > 4096))) && ((o.kind == 4 || !decide (((own o.label).length : Int) > 0)) && (sameOb (bareOf o) (headOf o) && innerO o)))
theorem bare_L {o : Ob} (h : o.L) : (bareOf o).L := by
  unfold bareOf
  split <;> (try split) <;> (try split) <;> (try split) <;> (try split) <;> (try split) <;> refine Ob.partL h _ ?_ ?_ ?_ ?_ ?_ ?_ ?_ ?_ <;> (first | exact .inl rfl | exact .inr rfl)
theorem obj_sound (o : Ob) (ha : o.L) (hl : o.label.length ≤ 900000) : Pure Try.prog 105 [.agg (Ob.enc o)] (.bool (soundO o)) := by
  refine pureI (by kernel_rfl) (by simp only [go_sem, *]) (by simp only [go_sem, *]) Try.func105 Try.results105 rfl (by simp [Try.ntmps105]) (by kernel_rfl) ?_
  have l1 := ha.1
  have hb := bare_L ha
  repeat' (first
    | (show pwOps ..; first | refine pops_nil ?_ | refine pops_n rfl ?_ | refine pops_w' rfl rfl ?_)
    | (show runGo ..; first | refine run_ev rfl rfl ?_ | refine run_call rfl ?_)
    | (show goOn ..; first | refine on_nop ?_ | refine on_new ?_ | refine on_put ?_ | refine on_born ?_ | refine on_grow ?_)
    | (show putGo ..; refine put_box ?_)
    | (show callGo ..; (refine call_pure (r := ?_) ?_ ?_; rotate_left 1; (focus first | exact obj_named _ | exact obj_kept _ l1 | exact label_owned _ hl | exact obj_bare _ | exact obj_sameOne _ _ hb | exact obj_inner _ ha hl)))
    | (show wGo ..; first | refine gw_tt ?_ | refine gw_ff ?_ | refine gw_tf ?_ | refine gw_ft ?_ | refine gw_u ?_ | refine gw_tn (fun _ => ?_) (fun _ => ?_) | refine gw_fn (fun _ => ?_) (fun _ => ?_) | refine gw_tb (fun _ => ?_) (fun _ => ?_) | refine gw_fb (fun _ => ?_) (fun _ => ?_))
    | (show dr ..; first | refine dr_nil ?_ | refine dr_n rfl ?_ | refine dr_w' rfl rfl ?_)
    | (show drGo ..; first | refine dr_ev rfl ?_ | refine dr_call rfl ?_)
    | (show drOn ..; first | refine dn_nop ?_ | refine dn_new ?_ | refine dn_put ?_ | refine dn_born ?_ | refine dn_grow ?_)
    | (show dputGo ..; refine dput_box ?_)
    | (show dcallGo ..; (refine dcall_pure (r := ?_) ?_ ?_; rotate_left 1; (focus first | exact obj_named _ | exact obj_kept _ l1 | exact label_owned _ hl | exact obj_bare _ | exact obj_sameOne _ _ hb | exact obj_inner _ ha hl)))
    | (refine And.intro (by kernel_rfl : okAll _ = true) ?_)
    | (show pwCode ..; first | refine pc_seq ?_ | refine pc_region ?_ | refine pc_draw (by kernel_rfl) ?_ | refine pc_ret ?_ | refine pc_skip ?_ | refine pc_block ?_ | refine pc_exit ?_ | refine pc_cond ?_)
    | (show condGo ..; first | refine cd_t ?_ | refine cd_f ?_ | refine cd_n (fun _ => ?_) (fun _ => ?_) | refine cd_b (fun _ => ?_) (fun _ => ?_))
    | refine th_normal ?_
    | refine th_ret ?_
    | refine th_exit ?_
    | refine th_pan ?_
    | refine bl_normal ?_
    | refine bl_exit ?_
    | refine bl_pass rfl ?_
    | refine bl_ret ?_
    | refine bl_pan ?_
    | (show retQ ..; first | refine rt_ret ?_ | refine rt_normal ?_)
    | refine rs_some ?_)
  all_goals (refine ret_of ?_; unfold soundO headOf; simp only [*, Bool.not_true, Bool.not_false, Bool.and_true, Bool.true_and, Bool.and_false, Bool.false_and, Bool.or_true, Bool.true_or, Bool.or_false, Bool.false_or, Bool.and_self, Bool.or_self, decide_true, decide_false, Bool.not_not, if_true, if_false, Bool.false_eq_true, eq_self])
end Go.Proofs.Ytggkjfllbfcagaa
end

section
namespace Go.Proofs.Ytggkjfllbfcagaa
open Go Go.RowKit
set_option linter.unusedVariables false
set_option linter.unusedSimpArgs false
set_option maxHeartbeats 16000000
set_option maxRecDepth 100000
attribute [local irreducible] pwOps dr pwCode Ex.then Ex.inBlock retQ okAll drawOk Pure CSat evOp calleeP rdOf upd hset strip sp0 cut envL heapL Again Keep BdL evBs AgainK KeepK
/-! Heads, shown labels, pages. -/
def seenOf (o : Ob) : Ob := ⟨o.id, o.kind, if (o.kind == 4) = true then [] else o.label, o.quota, o.fixed, [], [], [], Th.zero, Gt.zero, [], []⟩
theorem obj_head (o : Ob) : Pure Try.prog 59 [.agg (Ob.enc o)] (.agg (Ob.enc (seenOf o))) := by
  refine pureI (by kernel_rfl) (by simp only [go_sem, *]) (by simp only [go_sem, *]) Try.func59 Try.results59 rfl (by simp [Try.ntmps59]) (by kernel_rfl) ?_
  repeat' (first
    | (show pwOps ..; first | refine pops_nil ?_ | refine pops_n rfl ?_ | refine pops_w' rfl rfl ?_)
    | (show runGo ..; first | refine run_ev rfl rfl ?_ | refine run_call rfl ?_)
    | (show goOn ..; first | refine on_nop ?_ | refine on_new ?_ | refine on_put ?_ | refine on_born ?_ | refine on_grow ?_)
    | (show putGo ..; refine put_box ?_)
    | (show wGo ..; first | refine gw_tt ?_ | refine gw_ff ?_ | refine gw_tf ?_ | refine gw_ft ?_ | refine gw_u ?_ | refine gw_tn (fun _ => ?_) (fun _ => ?_) | refine gw_fn (fun _ => ?_) (fun _ => ?_) | refine gw_tb (fun _ => ?_) (fun _ => ?_) | refine gw_fb (fun _ => ?_) (fun _ => ?_))
    | (show dr ..; first | refine dr_nil ?_ | refine dr_n rfl ?_ | refine dr_w' rfl rfl ?_)
    | (show drGo ..; first | refine dr_ev rfl ?_ | refine dr_call rfl ?_)
    | (show drOn ..; first | refine dn_nop ?_ | refine dn_new ?_ | refine dn_put ?_ | refine dn_born ?_ | refine dn_grow ?_)
    | (show dputGo ..; refine dput_box ?_)
    | (refine And.intro (by kernel_rfl : okAll _ = true) ?_)
    | (show pwCode ..; first | refine pc_seq ?_ | refine pc_region ?_ | refine pc_draw (by kernel_rfl) ?_ | refine pc_ret ?_ | refine pc_skip ?_ | refine pc_block ?_ | refine pc_exit ?_ | refine pc_cond ?_)
    | (show condGo ..; first | refine cd_t ?_ | refine cd_f ?_ | refine cd_n (fun _ => ?_) (fun _ => ?_) | refine cd_b (fun _ => ?_) (fun _ => ?_))
    | refine th_normal ?_
    | refine th_ret ?_
    | refine th_exit ?_
    | refine th_pan ?_
    | refine bl_normal ?_
    | refine bl_exit ?_
    | refine bl_pass rfl ?_
    | refine bl_ret ?_
    | refine bl_pan ?_
    | (show retQ ..; first | refine rt_ret ?_ | refine rt_normal ?_)
    | refine rs_some ?_)
  all_goals (unfold seenOf; simp only [*, if_true, if_false, Bool.false_eq_true]; try rfl)
theorem r13_head (o : Ob) : Pure Try.prog 40 [.agg (Ob.enc o)] (.agg (Ob.enc (seenOf o))) := by
  refine pureI (by kernel_rfl) (by simp only [go_sem, *]) (by simp only [go_sem, *]) Try.func40 Try.results40 rfl (by simp [Try.ntmps40]) (by kernel_rfl) ?_
  repeat' (first
    | (show pwOps ..; first | refine pops_nil ?_ | refine pops_n rfl ?_ | refine pops_w' rfl rfl ?_)
    | (show runGo ..; first | refine run_ev rfl rfl ?_ | refine run_call rfl ?_)
    | (show goOn ..; first | refine on_nop ?_ | refine on_new ?_ | refine on_put ?_ | refine on_born ?_ | refine on_grow ?_)
    | (show putGo ..; refine put_box ?_)
    | (show wGo ..; first | refine gw_tt ?_ | refine gw_ff ?_ | refine gw_tf ?_ | refine gw_ft ?_ | refine gw_u ?_ | refine gw_tn (fun _ => ?_) (fun _ => ?_) | refine gw_fn (fun _ => ?_) (fun _ => ?_) | refine gw_tb (fun _ => ?_) (fun _ => ?_) | refine gw_fb (fun _ => ?_) (fun _ => ?_))
    | (show dr ..; first | refine dr_nil ?_ | refine dr_n rfl ?_ | refine dr_w' rfl rfl ?_)
    | (show drGo ..; first | refine dr_ev rfl ?_ | refine dr_call rfl ?_)
    | (show drOn ..; first | refine dn_nop ?_ | refine dn_new ?_ | refine dn_put ?_ | refine dn_born ?_ | refine dn_grow ?_)
    | (show dputGo ..; refine dput_box ?_)
    | (refine And.intro (by kernel_rfl : okAll _ = true) ?_)
    | (show pwCode ..; first | refine pc_seq ?_ | refine pc_region ?_ | refine pc_draw (by kernel_rfl) ?_ | refine pc_ret ?_ | refine pc_skip ?_ | refine pc_block ?_ | refine pc_exit ?_ | refine pc_cond ?_)
    | (show condGo ..; first | refine cd_t ?_ | refine cd_f ?_ | refine cd_n (fun _ => ?_) (fun _ => ?_) | refine cd_b (fun _ => ?_) (fun _ => ?_))
    | refine th_normal ?_
    | refine th_ret ?_
    | refine th_exit ?_
    | refine th_pan ?_
    | refine bl_normal ?_
    | refine bl_exit ?_
    | refine bl_pass rfl ?_
    | refine bl_ret ?_
    | refine bl_pan ?_
    | (show retQ ..; first | refine rt_ret ?_ | refine rt_normal ?_)
    | refine rs_some ?_)
  all_goals (unfold seenOf; simp only [*, if_true, if_false, Bool.false_eq_true]; try rfl)
def shownOf (o : Ob) : List Pr := if (o.kind == 4) = true then labRaise o.label else o.label
theorem obj_shown (o : Ob) (hl : o.label.length ≤ 900000) : Pure Try.prog 60 [.agg (Ob.enc o)] (.sl ((shownOf o).map Pr.enc)) := by
  refine pureI (by kernel_rfl) (by simp only [go_sem, *]) (by simp only [go_sem, *]) Try.func60 Try.results60 rfl (by simp [Try.ntmps60]) (by kernel_rfl) ?_
  have h := label_raise o.label (by omega)
  repeat' (first
    | (show pwOps ..; first | refine pops_nil ?_ | refine pops_n rfl ?_ | refine pops_w' rfl rfl ?_)
    | (show runGo ..; first | refine run_ev rfl rfl ?_ | refine run_call rfl ?_)
    | (show goOn ..; first | refine on_nop ?_ | refine on_new ?_ | refine on_put ?_ | refine on_born ?_ | refine on_grow ?_)
    | (show putGo ..; refine put_box ?_)
    | (show callGo ..; (refine call_pure (r := ?_) ?_ ?_; rotate_left 1; (focus first | exact h)))
    | (show wGo ..; first | refine gw_tt ?_ | refine gw_ff ?_ | refine gw_tf ?_ | refine gw_ft ?_ | refine gw_u ?_ | refine gw_tn (fun _ => ?_) (fun _ => ?_) | refine gw_fn (fun _ => ?_) (fun _ => ?_) | refine gw_tb (fun _ => ?_) (fun _ => ?_) | refine gw_fb (fun _ => ?_) (fun _ => ?_))
    | (show dr ..; first | refine dr_nil ?_ | refine dr_n rfl ?_ | refine dr_w' rfl rfl ?_)
    | (show drGo ..; first | refine dr_ev rfl ?_ | refine dr_call rfl ?_)
    | (show drOn ..; first | refine dn_nop ?_ | refine dn_new ?_ | refine dn_put ?_ | refine dn_born ?_ | refine dn_grow ?_)
    | (show dputGo ..; refine dput_box ?_)
    | (show dcallGo ..; (refine dcall_pure (r := ?_) ?_ ?_; rotate_left 1; (focus first | exact h)))
    | (refine And.intro (by kernel_rfl : okAll _ = true) ?_)
    | (show pwCode ..; first | refine pc_seq ?_ | refine pc_region ?_ | refine pc_draw (by kernel_rfl) ?_ | refine pc_ret ?_ | refine pc_skip ?_ | refine pc_block ?_ | refine pc_exit ?_ | refine pc_cond ?_)
    | (show condGo ..; first | refine cd_t ?_ | refine cd_f ?_ | refine cd_n (fun _ => ?_) (fun _ => ?_) | refine cd_b (fun _ => ?_) (fun _ => ?_))
    | refine th_normal ?_
    | refine th_ret ?_
    | refine th_exit ?_
    | refine th_pan ?_
    | refine bl_normal ?_
    | refine bl_exit ?_
    | refine bl_pass rfl ?_
    | refine bl_ret ?_
    | refine bl_pan ?_
    | (show retQ ..; first | refine rt_ret ?_ | refine rt_normal ?_)
    | refine rs_some ?_)
  all_goals (unfold shownOf; simp only [*, if_true, if_false, Bool.false_eq_true]; try rfl)
end Go.Proofs.Ytggkjfllbfcagaa
end

section
namespace Go.Proofs.Ytggkjfllbfcagaa
open Go Go.RowKit
set_option linter.unusedVariables false
set_option linter.unusedSimpArgs false
set_option maxHeartbeats 16000000
set_option maxRecDepth 100000
attribute [local irreducible] pwOps dr pwCode Ex.then Ex.inBlock retQ okAll drawOk Pure CSat evOp calleeP rdOf upd hset strip sp0 cut envL heapL Again Keep BdL evBs AgainK KeepK
/-! Worlds that can be. -/
def obAt (l : List Ob) (k : Nat) : Bool := match l[k]? with
  | none => true
  | some x => sound x && (match k with
    | 0 => true
    | j + 1 => match l[j]? with
      | some y => !decide (y.id ≥ x.id)
      | none => true)
def Wd.L (w : Wd) : Prop := w.objects.length ≤ 9223372036854775807 ∧ ∀ x ∈ w.objects, x.L ∧ x.label.length ≤ 900000
def wdFit (w : Wd) : Bool := (!decide (w.time < 0) && (!decide (w.time > 1099511627776) && !decide ((w.objects.length : Int) > 1024))) && allB w.objects.length (obAt w.objects)
theorem r13_fit (w : Wd) (hw : w.L) : Pure Try.prog 120 [.agg (Wd.enc w)] (.bool (wdFit w)) := by
  refine pureI (by kernel_rfl) (by simp only [go_sem, *]) (by simp only [go_sem, *]) Try.func120 Try.results120 rfl (by simp [Try.ntmps120]) (by kernel_rfl) ?_
  obtain ⟨hl, ho⟩ := hw
  repeat' (first
    | (show pwOps ..; first | refine pops_nil ?_ | refine pops_n rfl ?_ | refine pops_w' rfl rfl ?_)
    | (show runGo ..; first | refine run_ev rfl rfl ?_ | refine run_call rfl ?_)
    | (show goOn ..; first | refine on_nop ?_ | refine on_new ?_ | refine on_put ?_ | refine on_born ?_ | refine on_grow ?_)
    | (show putGo ..; refine put_box ?_)
    | (show wGo ..; first | refine gw_tt ?_ | refine gw_ff ?_ | refine gw_tf ?_ | refine gw_ft ?_ | refine gw_u ?_ | refine gw_tn (fun _ => ?_) (fun _ => ?_) | refine gw_fn (fun _ => ?_) (fun _ => ?_) | refine gw_tb (fun _ => ?_) (fun _ => ?_) | refine gw_fb (fun _ => ?_) (fun _ => ?_))
    | (show dr ..; first | refine dr_nil ?_ | refine dr_n rfl ?_ | refine dr_w' rfl rfl ?_)
    | (show drGo ..; first | refine dr_ev rfl ?_ | refine dr_call rfl ?_)
    | (show drOn ..; first | refine dn_nop ?_ | refine dn_new ?_ | refine dn_put ?_ | refine dn_born ?_ | refine dn_grow ?_)
    | (show dputGo ..; refine dput_box ?_)
    | (refine And.intro (by kernel_rfl : okAll _ = true) ?_)
    | (show pwCode ..; first | refine pc_seq ?_ | refine pc_region ?_ | refine pc_draw (by kernel_rfl) ?_ | refine pc_ret ?_ | refine pc_skip ?_ | refine pc_block ?_ | refine pc_exit ?_ | refine pc_cond ?_)
    | (show condGo ..; first | refine cd_t ?_ | refine cd_f ?_ | refine cd_n (fun _ => ?_) (fun _ => ?_) | refine cd_b (fun _ => ?_) (fun _ => ?_))
    | refine th_normal ?_
    | refine th_ret ?_
    | refine th_exit ?_
    | refine th_pan ?_
    | refine bl_normal ?_
    | refine bl_exit ?_
    | refine bl_pass rfl ?_
    | refine bl_ret ?_
    | refine bl_pan ?_
    | (show retQ ..; first | refine rt_ret ?_ | refine rt_normal ?_)
    | refine rs_some ?_)
  all_goals first | (refine ret_of ?_; unfold wdFit; simp only [*, Bool.not_true, Bool.not_false, Bool.and_true, Bool.true_and, Bool.and_false, Bool.false_and, Bool.or_true, Bool.true_or, Bool.or_false, Bool.false_or, Bool.and_self, Bool.or_self, decide_true, decide_false, Bool.not_not, if_true, if_false, Bool.false_eq_true, eq_self]; done) | skip
  rename_i t1 t2 t3
  refine pc_loop (S := Nat) (fun n => w.objects.length - n) (fun n => n ≤ w.objects.length ∧ ∀ j, j < n → obAt w.objects j = true) (fun n => [(1, .ptr 0 0), (3, .int .i64 n)]) (fun _ => [(0, .box (Wd.enc w))]) (fun _ => 1) 0 ⟨Nat.zero_le _, fun j hj => absurd hj (Nat.not_lt_zero j)⟩ (by (refine keepI ?_ ?_ <;> repeat' (first | exact ke_nil | exact kg_nil | refine ke_cons (by (try simp only [go_sem, *]); try rfl) (by simp only [go_sem, *]) ?_ | refine kg_box (by (try simp only [go_sem, *]); try rfl) (by omega) (by simp only [go_sem, *]) ?_ | refine kg_row (by (try simp only [go_sem, *]); try rfl) (by omega) (by simp only [go_sem, *]) ?_))) ?_
  rintro n ⟨hn, hs⟩
  have fin : ∀ b, allB w.objects.length (obAt w.objects) = b → b = wdFit w := fun b hb => by unfold wdFit; rw [hb, t1, t2, t3]; rfl
  rcases Nat.lt_or_ge n w.objects.length with hlt | hge
  · obtain ⟨x, hx⟩ := lt_len hlt
    have h0 := lt_true hlt
    have h4 := wrap_nat n (by omega)
    have hq := r13_sound x (ho x (List.mem_of_getElem? hx)).1 (ho x (List.mem_of_getElem? hx)).2
    cases n with
    | zero =>
      have e : obAt w.objects 0 = (sound x && true) := by unfold obAt; rw [hx]
      repeat' (first
    | (show pwOps ..; first | refine pops_nil ?_ | refine pops_n rfl ?_ | refine pops_w' rfl rfl ?_)
    | (show runGo ..; first | refine run_ev rfl rfl ?_ | refine run_call rfl ?_)
    | (show goOn ..; first | refine on_nop ?_ | refine on_new ?_ | refine on_put ?_ | refine on_born ?_ | refine on_grow ?_)
    | (show putGo ..; refine put_box ?_)
    | (show callGo ..; (refine call_pure (r := ?_) ?_ ?_; rotate_left 1; (focus first | exact hq)))
    | (show wGo ..; first | refine gw_tt ?_ | refine gw_ff ?_ | refine gw_tf ?_ | refine gw_ft ?_ | refine gw_u ?_ | refine gw_tn (fun _ => ?_) (fun _ => ?_) | refine gw_fn (fun _ => ?_) (fun _ => ?_) | refine gw_tb (fun _ => ?_) (fun _ => ?_) | refine gw_fb (fun _ => ?_) (fun _ => ?_))
    | (show dr ..; first | refine dr_nil ?_ | refine dr_n rfl ?_ | refine dr_w' rfl rfl ?_)
    | (show drGo ..; first | refine dr_ev rfl ?_ | refine dr_call rfl ?_)
    | (show drOn ..; first | refine dn_nop ?_ | refine dn_new ?_ | refine dn_put ?_ | refine dn_born ?_ | refine dn_grow ?_)
    | (show dputGo ..; refine dput_box ?_)
    | (show dcallGo ..; (refine dcall_pure (r := ?_) ?_ ?_; rotate_left 1; (focus first | exact hq)))
    | (refine And.intro (by kernel_rfl : okAll _ = true) ?_)
    | (show pwCode ..; first | refine pc_seq ?_ | refine pc_region ?_ | refine pc_draw (by kernel_rfl) ?_ | refine pc_ret ?_ | refine pc_skip ?_ | refine pc_block ?_ | refine pc_exit ?_ | refine pc_cond ?_)
    | (show condGo ..; first | refine cd_t ?_ | refine cd_f ?_ | refine cd_n (fun _ => ?_) (fun _ => ?_) | refine cd_b (fun _ => ?_) (fun _ => ?_))
    | refine th_normal ?_
    | refine th_ret ?_
    | refine th_exit ?_
    | refine th_pan ?_
    | refine bl_normal ?_
    | refine bl_exit ?_
    | refine bl_pass rfl ?_
    | refine bl_ret ?_
    | refine bl_pan ?_
    | (show retQ ..; first | refine rt_ret ?_ | refine rt_normal ?_)
    | refine rs_some ?_)
      all_goals first
        | (refine ret_of (fin _ (allB_false hlt ?_)); simp only [*, Bool.not_true, Bool.not_false, Bool.and_true, Bool.true_and, Bool.and_false, Bool.false_and, Bool.or_true, Bool.true_or, Bool.or_false, Bool.false_or, Bool.and_self, Bool.or_self, decide_true, decide_false, Bool.not_not, if_true, if_false, Bool.false_eq_true, eq_self])
        | (refine again (0 + 1) ⟨?_, up_to hs ?_⟩ ?_ (by (refine keepI ?_ ?_ <;> repeat' (first | exact ke_nil | exact kg_nil | refine ke_cons (by (try simp only [go_sem, *]); try rfl) (by simp only [go_sem, *]) ?_ | refine kg_box (by (try simp only [go_sem, *]); try rfl) (by omega) (by simp only [go_sem, *]) ?_ | refine kg_row (by (try simp only [go_sem, *]); try rfl) (by omega) (by simp only [go_sem, *]) ?_))); (focus omega); (focus simp only [*, Bool.not_true, Bool.not_false, Bool.and_true, Bool.true_and, Bool.and_false, Bool.false_and, Bool.or_true, Bool.true_or, Bool.or_false, Bool.false_or, Bool.and_self, Bool.or_self, decide_true, decide_false, Bool.not_not, if_true, if_false, Bool.false_eq_true, eq_self]); (focus omega))
    | succ j =>
      obtain ⟨y, hy⟩ := lt_len (by omega : j < w.objects.length)
      have h5 := wrap_prev j (by omega)
      have h6 := gt_prev j
      have e : obAt w.objects (j + 1) = (sound x && !decide (y.id ≥ x.id)) := by unfold obAt; rw [hx]; simp only [hy]
      repeat' (first
    | (show pwOps ..; first | refine pops_nil ?_ | refine pops_n rfl ?_ | refine pops_w' rfl rfl ?_)
    | (show runGo ..; first | refine run_ev rfl rfl ?_ | refine run_call rfl ?_)
    | (show goOn ..; first | refine on_nop ?_ | refine on_new ?_ | refine on_put ?_ | refine on_born ?_ | refine on_grow ?_)
    | (show putGo ..; refine put_box ?_)
    | (show callGo ..; (refine call_pure (r := ?_) ?_ ?_; rotate_left 1; (focus first | exact hq)))
    | (show wGo ..; first | refine gw_tt ?_ | refine gw_ff ?_ | refine gw_tf ?_ | refine gw_ft ?_ | refine gw_u ?_ | refine gw_tn (fun _ => ?_) (fun _ => ?_) | refine gw_fn (fun _ => ?_) (fun _ => ?_) | refine gw_tb (fun _ => ?_) (fun _ => ?_) | refine gw_fb (fun _ => ?_) (fun _ => ?_))
    | (show dr ..; first | refine dr_nil ?_ | refine dr_n rfl ?_ | refine dr_w' rfl rfl ?_)
    | (show drGo ..; first | refine dr_ev rfl ?_ | refine dr_call rfl ?_)
    | (show drOn ..; first | refine dn_nop ?_ | refine dn_new ?_ | refine dn_put ?_ | refine dn_born ?_ | refine dn_grow ?_)
    | (show dputGo ..; refine dput_box ?_)
    | (show dcallGo ..; (refine dcall_pure (r := ?_) ?_ ?_; rotate_left 1; (focus first | exact hq)))
    | (refine And.intro (by kernel_rfl : okAll _ = true) ?_)
    | (show pwCode ..; first | refine pc_seq ?_ | refine pc_region ?_ | refine pc_draw (by kernel_rfl) ?_ | refine pc_ret ?_ | refine pc_skip ?_ | refine pc_block ?_ | refine pc_exit ?_ | refine pc_cond ?_)
    | (show condGo ..; first | refine cd_t ?_ | refine cd_f ?_ | refine cd_n (fun _ => ?_) (fun _ => ?_) | refine cd_b (fun _ => ?_) (fun _ => ?_))
    | refine th_normal ?_
    | refine th_ret ?_
    | refine th_exit ?_
    | refine th_pan ?_
    | refine bl_normal ?_
    | refine bl_exit ?_
    | refine bl_pass rfl ?_
    | refine bl_ret ?_
    | refine bl_pan ?_
    | (show retQ ..; first | refine rt_ret ?_ | refine rt_normal ?_)
    | refine rs_some ?_)
      all_goals first
        | (refine ret_of (fin _ (allB_false hlt ?_)); simp only [*, Bool.not_true, Bool.not_false, Bool.and_true, Bool.true_and, Bool.and_false, Bool.false_and, Bool.or_true, Bool.true_or, Bool.or_false, Bool.false_or, Bool.and_self, Bool.or_self, decide_true, decide_false, Bool.not_not, if_true, if_false, Bool.false_eq_true, eq_self])
        | (refine again (j + 1 + 1) ⟨?_, up_to hs ?_⟩ ?_ (by (refine keepI ?_ ?_ <;> repeat' (first | exact ke_nil | exact kg_nil | refine ke_cons (by (try simp only [go_sem, *]); try rfl) (by simp only [go_sem, *]) ?_ | refine kg_box (by (try simp only [go_sem, *]); try rfl) (by omega) (by simp only [go_sem, *]) ?_ | refine kg_row (by (try simp only [go_sem, *]); try rfl) (by omega) (by simp only [go_sem, *]) ?_))); (focus omega); (focus simp only [*, Bool.not_true, Bool.not_false, Bool.and_true, Bool.true_and, Bool.and_false, Bool.false_and, Bool.or_true, Bool.true_or, Bool.or_false, Bool.false_or, Bool.and_self, Bool.or_self, decide_true, decide_false, Bool.not_not, if_true, if_false, Bool.false_eq_true, eq_self]); (focus omega))
  · have h0 := lt_false hge
    repeat' (first
    | (show pwOps ..; first | refine pops_nil ?_ | refine pops_n rfl ?_ | refine pops_w' rfl rfl ?_)
    | (show runGo ..; first | refine run_ev rfl rfl ?_ | refine run_call rfl ?_)
    | (show goOn ..; first | refine on_nop ?_ | refine on_new ?_ | refine on_put ?_ | refine on_born ?_ | refine on_grow ?_)
    | (show putGo ..; refine put_box ?_)
    | (show wGo ..; first | refine gw_tt ?_ | refine gw_ff ?_ | refine gw_tf ?_ | refine gw_ft ?_ | refine gw_u ?_ | refine gw_tn (fun _ => ?_) (fun _ => ?_) | refine gw_fn (fun _ => ?_) (fun _ => ?_) | refine gw_tb (fun _ => ?_) (fun _ => ?_) | refine gw_fb (fun _ => ?_) (fun _ => ?_))
    | (show dr ..; first | refine dr_nil ?_ | refine dr_n rfl ?_ | refine dr_w' rfl rfl ?_)
    | (show drGo ..; first | refine dr_ev rfl ?_ | refine dr_call rfl ?_)
    | (show drOn ..; first | refine dn_nop ?_ | refine dn_new ?_ | refine dn_put ?_ | refine dn_born ?_ | refine dn_grow ?_)
    | (show dputGo ..; refine dput_box ?_)
    | (refine And.intro (by kernel_rfl : okAll _ = true) ?_)
    | (show pwCode ..; first | refine pc_seq ?_ | refine pc_region ?_ | refine pc_draw (by kernel_rfl) ?_ | refine pc_ret ?_ | refine pc_skip ?_ | refine pc_block ?_ | refine pc_exit ?_ | refine pc_cond ?_)
    | (show condGo ..; first | refine cd_t ?_ | refine cd_f ?_ | refine cd_n (fun _ => ?_) (fun _ => ?_) | refine cd_b (fun _ => ?_) (fun _ => ?_))
    | refine th_normal ?_
    | refine th_ret ?_
    | refine th_exit ?_
    | refine th_pan ?_
    | refine bl_normal ?_
    | refine bl_exit ?_
    | refine bl_pass rfl ?_
    | refine bl_ret ?_
    | refine bl_pan ?_
    | (show retQ ..; first | refine rt_ret ?_ | refine rt_normal ?_)
    | refine rs_some ?_)
    exact ret_of (fin _ (allB_true fun j hj => hs j (by omega)))
end Go.Proofs.Ytggkjfllbfcagaa
end

section
namespace Go.Proofs.Ytggkjfllbfcagaa
open Go Go.RowKit
set_option linter.unusedVariables false
set_option linter.unusedSimpArgs false
set_option maxHeartbeats 16000000
set_option maxRecDepth 100000
attribute [local irreducible] pwOps dr pwCode Ex.then Ex.inBlock retQ okAll drawOk Pure CSat evOp calleeP rdOf upd hset strip sp0 cut envL heapL Again Keep BdL evBs AgainK KeepK
/-! What the laws of objects let in. -/
def briefOb (o : Ob) : Bool := decide ((o.label.length : Int) ≤ 20) && (decide ((o.links.length : Int) ≤ 80) && (decide ((o.data.length : Int) ≤ 200) && (decide ((o.maps.length : Int) ≤ 20) && (decide ((o.inn.length : Int) ≤ 80) && (decide ((o.out.length : Int) ≤ 80) && decide ((o.thread.alerts.length : Int) ≤ 20))))))
theorem law13_brief (o : Ob) : Pure Try.prog 57 [.agg (Ob.enc o)] (.bool (briefOb o)) := by
  refine pureI (by kernel_rfl) (by simp only [go_sem, *]) (by simp only [go_sem, *]) Try.func57 Try.results57 rfl (by simp [Try.ntmps57]) (by kernel_rfl) ?_
  repeat' (first
    | (show pwOps ..; first | refine pops_nil ?_ | refine pops_n rfl ?_ | refine pops_w' rfl rfl ?_)
    | (show runGo ..; first | refine run_ev rfl rfl ?_ | refine run_call rfl ?_)
    | (show goOn ..; first | refine on_nop ?_ | refine on_new ?_ | refine on_put ?_ | refine on_born ?_ | refine on_grow ?_)
    | (show putGo ..; refine put_box ?_)
    | (show wGo ..; first | refine gw_tt ?_ | refine gw_ff ?_ | refine gw_tf ?_ | refine gw_ft ?_ | refine gw_u ?_ | refine gw_tn (fun _ => ?_) (fun _ => ?_) | refine gw_fn (fun _ => ?_) (fun _ => ?_) | refine gw_tb (fun _ => ?_) (fun _ => ?_) | refine gw_fb (fun _ => ?_) (fun _ => ?_))
    | (show dr ..; first | refine dr_nil ?_ | refine dr_n rfl ?_ | refine dr_w' rfl rfl ?_)
    | (show drGo ..; first | refine dr_ev rfl ?_ | refine dr_call rfl ?_)
    | (show drOn ..; first | refine dn_nop ?_ | refine dn_new ?_ | refine dn_put ?_ | refine dn_born ?_ | refine dn_grow ?_)
    | (show dputGo ..; refine dput_box ?_)
    | (refine And.intro (by kernel_rfl : okAll _ = true) ?_)
    | (show pwCode ..; first | refine pc_seq ?_ | refine pc_region ?_ | refine pc_draw (by kernel_rfl) ?_ | refine pc_ret ?_ | refine pc_skip ?_ | refine pc_block ?_ | refine pc_exit ?_ | refine pc_cond ?_)
    | (show condGo ..; first | refine cd_t ?_ | refine cd_f ?_ | refine cd_n (fun _ => ?_) (fun _ => ?_) | refine cd_b (fun _ => ?_) (fun _ => ?_))
    | refine th_normal ?_
    | refine th_ret ?_
    | refine th_exit ?_
    | refine th_pan ?_
    | refine bl_normal ?_
    | refine bl_exit ?_
    | refine bl_pass rfl ?_
    | refine bl_ret ?_
    | refine bl_pan ?_
    | (show retQ ..; first | refine rt_ret ?_ | refine rt_normal ?_)
    | refine rs_some ?_)
  all_goals (refine ret_of ?_; unfold briefOb; simp only [*, Bool.not_true, Bool.not_false, Bool.and_true, Bool.true_and, Bool.and_false, Bool.false_and, Bool.or_true, Bool.true_or, Bool.or_false, Bool.false_or, Bool.and_self, Bool.or_self, decide_true, decide_false, Bool.not_not, if_true, if_false, Bool.false_eq_true, eq_self])
end Go.Proofs.Ytggkjfllbfcagaa
end

section
namespace Go.Proofs.Ytggkjfllbfcagaa
open Go Go.RowKit
set_option linter.unusedVariables false
set_option linter.unusedSimpArgs false
/-! Labels, without a program: category by category (out of LabGet and LabPure). -/
theorem ofL_range (a : Int) : 0 ≤ ofL a ∧ ofL a ≤ 5 := by unfold ofL; split <;> omega
theorem ofL_of {a : Int} (h : 0 ≤ a ∧ a ≤ 5) : ofL a = a := if_pos h
def Sorted (l : Lab) : Prop := ∀ i j (hi : i < l.length) (hj : j < l.length), i < j → l[i].1 < l[j].1
def getL (l : Lab) (c : Int) : Int := match l.find? (fun p => p.1 == c) with
  | some p => p.2
  | none => 2
theorem Sorted.uniq {l : Lab} (h : Sorted l) {i j : Nat} (hi : i < l.length) (hj : j < l.length) (he : l[i].1 = l[j].1) : i = j := by
  rcases Nat.lt_trichotomy i j with hlt | rfl | hlt
  · have := h i j hi hj hlt; omega
  · rfl
  · have := h j i hj hi hlt; omega
theorem getL_at {l : Lab} (h : Sorted l) {i : Nat} (hi : i < l.length) : getL l l[i].1 = l[i].2 := by
  unfold getL
  cases hf : l.find? (fun p => p.1 == l[i].1) with
  | none => rw [List.find?_eq_none] at hf; exact absurd (by simp) (hf l[i] (List.getElem_mem _))
  | some p =>
    have h1 := List.find?_some hf
    obtain ⟨j, hj, rfl⟩ := List.getElem_of_mem (List.mem_of_find?_eq_some hf)
    have : j = i := h.uniq hj hi (by simpa using h1)
    subst this; rfl
theorem getL_none {l : Lab} {c : Int} (h : ∀ i (hi : i < l.length), l[i].1 ≠ c) : getL l c = 2 := by
  unfold getL
  have : l.find? (fun p => p.1 == c) = none := by
    rw [List.find?_eq_none]
    intro p hp
    obtain ⟨j, hj, rfl⟩ := List.getElem_of_mem hp
    simpa using h j hj
  rw [this]
def SortedP (l : Lab) : Prop := l.Pairwise (fun p q => p.1 < q.1)
theorem sorted_iff {l : Lab} : Sorted l ↔ SortedP l := by
  unfold Sorted SortedP
  rw [List.pairwise_iff_getElem]
def sortB : Lab → Bool
  | [] => true
  | p :: t => t.all (fun q => decide (p.1 < q.1)) && sortB t
theorem sortB_iff {l : Lab} : sortB l = true ↔ SortedP l := by
  induction l with
  | nil => simp [sortB, SortedP]
  | cons p t ih => unfold SortedP at ih ⊢; simp only [sortB, Bool.and_eq_true, List.all_eq_true, decide_eq_true_eq, List.pairwise_cons, ih]
theorem sortB_sorted {l : Lab} (h : sortB l = true) : Sorted l := sorted_iff.2 (sortB_iff.1 h)
theorem sortB_of {l : Lab} (h : SortedP l) : sortB l = true := sortB_iff.2 h
/-- A fit label. -/
structure FitL (l : Lab) : Prop where
  sorted : SortedP l
  lev : ∀ p ∈ l, 0 ≤ p.2 ∧ p.2 ≤ 5 ∧ p.2 ≠ 2
theorem getL_nil (c : Int) : getL [] c = 2 := rfl
theorem getL_cons (p : Int × Int) (t : Lab) (c : Int) : getL (p :: t) c = if p.1 = c then p.2 else getL t c := by
  unfold getL
  by_cases h : p.1 = c
  · simp [List.find?_cons, h]
  · have : (p.1 == c) = false := by simpa using h
    simp [List.find?_cons, this, h]
theorem getL_out {l : Lab} {c : Int} (h : ∀ p ∈ l, p.1 ≠ c) : getL l c = 2 := by
  induction l with
  | nil => rfl
  | cons p t ih => rw [getL_cons, if_neg (h p (by simp)), ih (fun q hq => h q (by simp [hq]))]
theorem SortedP.tail {p : Int × Int} {t : Lab} (h : SortedP (p :: t)) : SortedP t := (List.pairwise_cons.1 h).2
theorem SortedP.head {p : Int × Int} {t : Lab} (h : SortedP (p :: t)) : ∀ q ∈ t, p.1 < q.1 := (List.pairwise_cons.1 h).1
theorem getL_head {p : Int × Int} {t : Lab} : getL (p :: t) p.1 = p.2 := by rw [getL_cons, if_pos rfl]
theorem getL_tail {p : Int × Int} {t : Lab} {c : Int} (h : p.1 ≠ c) : getL (p :: t) c = getL t c := by rw [getL_cons, if_neg h]
theorem getL_mem {l : Lab} (h : SortedP l) {p : Int × Int} (hp : p ∈ l) : getL l p.1 = p.2 := by
  obtain ⟨i, hi, rfl⟩ := List.getElem_of_mem hp
  exact getL_at (sorted_iff.2 h) hi
theorem getL_or {l : Lab} (h : SortedP l) (c : Int) : (∃ p ∈ l, p.1 = c ∧ getL l c = p.2) ∨ ((∀ p ∈ l, p.1 ≠ c) ∧ getL l c = 2) := by
  by_cases hx : ∃ p ∈ l, p.1 = c
  · obtain ⟨p, hp, rfl⟩ := hx
    exact .inl ⟨p, hp, rfl, getL_mem h hp⟩
  · have : ∀ p ∈ l, p.1 ≠ c := fun p hp he => hx ⟨p, hp, he⟩
    exact .inr ⟨this, getL_out this⟩
theorem getL_range {l : Lab} (h : FitL l) (c : Int) : 0 ≤ getL l c ∧ getL l c ≤ 5 := by
  rcases getL_or h.sorted c with ⟨p, hp, _, he⟩ | ⟨_, he⟩
  · have := h.lev p hp; omega
  · omega
theorem ofL_get {l : Lab} (h : FitL l) (c : Int) : ofL (getL l c) = getL l c := ofL_of (getL_range h c)
theorem FitL.tail {p : Int × Int} {t : Lab} (h : FitL (p :: t)) : FitL t := ⟨h.sorted.tail, fun q hq => h.lev q (by simp [hq])⟩
theorem lab_ext {l m : Lab} (hl : FitL l) (hm : FitL m) (h : ∀ c, getL l c = getL m c) : l = m := by
  induction l generalizing m with
  | nil =>
    cases m with
    | nil => rfl
    | cons q t =>
      have h1 := h q.1
      rw [getL_head, getL_nil] at h1
      exact absurd h1.symm (hm.lev q (by simp)).2.2
  | cons p t ih =>
    cases m with
    | nil =>
      have h1 := h p.1
      rw [getL_head, getL_nil] at h1
      exact absurd h1 (hl.lev p (by simp)).2.2
    | cons q s =>
      have hp := (hl.lev p (by simp)).2.2
      have hq := (hm.lev q (by simp)).2.2
      have hpq : p.1 = q.1 := by
        rcases Int.lt_trichotomy p.1 q.1 with hlt | he | hlt
        · have h1 := h p.1
          rw [getL_head, getL_out (l := q :: s) (fun r hr => by
            rcases List.mem_cons.1 hr with rfl | hr
            · omega
            · have := hm.sorted.head r hr; omega)] at h1
          exact absurd h1 hp
        · exact he
        · have h1 := h q.1
          rw [getL_head, getL_out (l := p :: t) (fun r hr => by
            rcases List.mem_cons.1 hr with rfl | hr
            · omega
            · have := hl.sorted.head r hr; omega)] at h1
          exact absurd h1.symm hq
      have h2 : p.2 = q.2 := by
        have h1 := h p.1
        rw [getL_head, hpq, getL_head] at h1
        exact h1
      obtain rfl : p = q := Prod.ext hpq h2
      congr 1
      refine ih hl.tail hm.tail fun c => ?_
      by_cases hc : p.1 = c
      · subst hc
        rw [getL_out (fun r hr => by have := hl.sorted.head r hr; omega), getL_out (fun r hr => by have := hm.sorted.head r hr; omega)]
      · have := h c
        rwa [getL_tail hc, getL_tail hc] at this
theorem mergeB_mem {a b : Lab} {x : Int × (Int × Int)} (hx : x ∈ mergeB a b) : (∃ p ∈ a, p.1 = x.1) ∨ (∃ q ∈ b, q.1 = x.1) := by
  fun_induction mergeB a b with
  | case1 => simp at hx
  | case2 p a ih =>
    rcases List.mem_cons.1 hx with rfl | hx
    · exact .inl ⟨p, by simp, rfl⟩
    · rcases ih hx with ⟨q, hq, he⟩ | ⟨q, hq, he⟩
      · exact .inl ⟨q, by simp [hq], he⟩
      · simp at hq
  | case3 q b ih =>
    rcases List.mem_cons.1 hx with rfl | hx
    · exact .inr ⟨q, by simp, rfl⟩
    · rcases ih hx with ⟨p, hp, he⟩ | ⟨p, hp, he⟩
      · simp at hp
      · exact .inr ⟨p, by simp [hp], he⟩
  | case4 p a q b hlt ih =>
    rcases List.mem_cons.1 hx with rfl | hx
    · exact .inl ⟨p, by simp, rfl⟩
    · rcases ih hx with ⟨r, hr, he⟩ | h
      · exact .inl ⟨r, by simp [hr], he⟩
      · exact .inr h
  | case5 p a q b hlt hgt ih =>
    rcases List.mem_cons.1 hx with rfl | hx
    · exact .inr ⟨q, by simp, rfl⟩
    · rcases ih hx with h | ⟨r, hr, he⟩
      · exact .inl h
      · exact .inr ⟨r, by simp [hr], he⟩
  | case6 p a q b hlt hgt ih =>
    rcases List.mem_cons.1 hx with rfl | hx
    · exact .inr ⟨q, by simp, rfl⟩
    · rcases ih hx with ⟨r, hr, he⟩ | ⟨r, hr, he⟩
      · exact .inl ⟨r, by simp [hr], he⟩
      · exact .inr ⟨r, by simp [hr], he⟩
theorem mergeB_sorted {a b : Lab} (ha : SortedP a) (hb : SortedP b) : (mergeB a b).Pairwise (fun x y => x.1 < y.1) := by
  fun_induction mergeB a b with
  | case1 => exact List.Pairwise.nil
  | case2 p a ih =>
    refine List.pairwise_cons.2 ⟨fun y hy => ?_, ih ha.tail hb⟩
    rcases mergeB_mem hy with ⟨q, hq, he⟩ | ⟨q, hq, he⟩
    · have := ha.head q hq; simp only; omega
    · simp at hq
  | case3 q b ih =>
    refine List.pairwise_cons.2 ⟨fun y hy => ?_, ih ha hb.tail⟩
    rcases mergeB_mem hy with ⟨p, hp, he⟩ | ⟨p, hp, he⟩
    · simp at hp
    · have := hb.head p hp; simp only; omega
  | case4 p a q b hlt ih =>
    refine List.pairwise_cons.2 ⟨fun y hy => ?_, ih ha.tail hb⟩
    rcases mergeB_mem hy with ⟨r, hr, he⟩ | ⟨r, hr, he⟩
    · have := ha.head r hr; simp only; omega
    · rcases List.mem_cons.1 hr with rfl | hr
      · simp only; omega
      · have := hb.head r hr; simp only; omega
  | case5 p a q b hlt hgt ih =>
    refine List.pairwise_cons.2 ⟨fun y hy => ?_, ih ha hb.tail⟩
    rcases mergeB_mem hy with ⟨r, hr, he⟩ | ⟨r, hr, he⟩
    · rcases List.mem_cons.1 hr with rfl | hr
      · simp only; omega
      · have := ha.head r hr; simp only; omega
    · have := hb.head r hr; simp only; omega
  | case6 p a q b hlt hgt ih =>
    refine List.pairwise_cons.2 ⟨fun y hy => ?_, ih ha.tail hb.tail⟩
    rcases mergeB_mem hy with ⟨r, hr, he⟩ | ⟨r, hr, he⟩
    · have := ha.head r hr; simp only; omega
    · have := hb.head r hr; simp only; omega
theorem mergeB_all {a b : Lab} : (∀ p ∈ a, ∃ x ∈ mergeB a b, x.1 = p.1) ∧ (∀ q ∈ b, ∃ x ∈ mergeB a b, x.1 = q.1) := by
  fun_induction mergeB a b with
  | case1 => simp
  | case2 p a ih =>
    refine ⟨fun r hr => ?_, fun r hr => by simp at hr⟩
    rcases List.mem_cons.1 hr with rfl | hr
    · exact ⟨_, List.mem_cons_self, rfl⟩
    · obtain ⟨x, hx, he⟩ := ih.1 r hr; exact ⟨x, List.mem_cons_of_mem _ hx, he⟩
  | case3 q b ih =>
    refine ⟨fun r hr => by simp at hr, fun r hr => ?_⟩
    rcases List.mem_cons.1 hr with rfl | hr
    · exact ⟨_, List.mem_cons_self, rfl⟩
    · obtain ⟨x, hx, he⟩ := ih.2 r hr; exact ⟨x, List.mem_cons_of_mem _ hx, he⟩
  | case4 p a q b hlt ih =>
    refine ⟨fun r hr => ?_, fun r hr => ?_⟩
    · rcases List.mem_cons.1 hr with rfl | hr
      · exact ⟨_, List.mem_cons_self, rfl⟩
      · obtain ⟨x, hx, he⟩ := ih.1 r hr; exact ⟨x, List.mem_cons_of_mem _ hx, he⟩
    · obtain ⟨x, hx, he⟩ := ih.2 r hr; exact ⟨x, List.mem_cons_of_mem _ hx, he⟩
  | case5 p a q b hlt hgt ih =>
    refine ⟨fun r hr => ?_, fun r hr => ?_⟩
    · obtain ⟨x, hx, he⟩ := ih.1 r hr; exact ⟨x, List.mem_cons_of_mem _ hx, he⟩
    · rcases List.mem_cons.1 hr with rfl | hr
      · exact ⟨_, List.mem_cons_self, rfl⟩
      · obtain ⟨x, hx, he⟩ := ih.2 r hr; exact ⟨x, List.mem_cons_of_mem _ hx, he⟩
  | case6 p a q b hlt hgt ih =>
    have hpq : p.1 = q.1 := by omega
    refine ⟨fun r hr => ?_, fun r hr => ?_⟩
    · rcases List.mem_cons.1 hr with rfl | hr
      · exact ⟨_, List.mem_cons_self, hpq.symm⟩
      · obtain ⟨x, hx, he⟩ := ih.1 r hr; exact ⟨x, List.mem_cons_of_mem _ hx, he⟩
    · rcases List.mem_cons.1 hr with rfl | hr
      · exact ⟨_, List.mem_cons_self, rfl⟩
      · obtain ⟨x, hx, he⟩ := ih.2 r hr; exact ⟨x, List.mem_cons_of_mem _ hx, he⟩
theorem getL_below {l : Lab} {c : Int} (h : ∀ p ∈ l, c < p.1) : getL l c = 2 := getL_out fun p hp => by have := h p hp; omega
theorem mergeB_val {a b : Lab} (ha : SortedP a) (hb : SortedP b) : ∀ x ∈ mergeB a b, x.2 = (getL a x.1, getL b x.1) := by
  fun_induction mergeB a b with
  | case1 => simp
  | case2 p a ih =>
    intro x hx
    have hs := mergeB_sorted ha hb
    rcases List.mem_cons.1 hx with rfl | hx
    · simp only; rw [getL_head, getL_nil]
    · rw [ih ha.tail hb x hx]
      rcases mergeB_mem hx with ⟨q, hq, he⟩ | ⟨q, hq, he⟩
      · have := ha.head q hq; rw [getL_tail (by omega)]
      · simp at hq
  | case3 q b ih =>
    intro x hx
    rcases List.mem_cons.1 hx with rfl | hx
    · simp only; rw [getL_head, getL_nil]
    · rw [ih ha hb.tail x hx]
      rcases mergeB_mem hx with ⟨r, hr, he⟩ | ⟨r, hr, he⟩
      · simp at hr
      · have := hb.head r hr; rw [getL_tail (by omega)]
  | case4 p a q b hlt ih =>
    intro x hx
    rcases List.mem_cons.1 hx with rfl | hx
    · simp only; rw [getL_head, getL_below (l := q :: b) (fun r hr => by
        rcases List.mem_cons.1 hr with rfl | hr
        · omega
        · have := hb.head r hr; omega)]
    · rw [ih ha.tail hb x hx]
      have hlt2 : p.1 < x.1 := by
        rcases mergeB_mem hx with ⟨r, hr, he⟩ | ⟨r, hr, he⟩
        · have := ha.head r hr; omega
        · rcases List.mem_cons.1 hr with rfl | hr
          · omega
          · have := hb.head r hr; omega
      rw [getL_tail (p := p) (by omega)]
  | case5 p a q b hlt hgt ih =>
    intro x hx
    rcases List.mem_cons.1 hx with rfl | hx
    · simp only; rw [getL_head, getL_below (l := p :: a) (fun r hr => by
        rcases List.mem_cons.1 hr with rfl | hr
        · omega
        · have := ha.head r hr; omega)]
    · rw [ih ha hb.tail x hx]
      have hlt2 : q.1 < x.1 := by
        rcases mergeB_mem hx with ⟨r, hr, he⟩ | ⟨r, hr, he⟩
        · rcases List.mem_cons.1 hr with rfl | hr
          · omega
          · have := ha.head r hr; omega
        · have := hb.head r hr; omega
      rw [getL_tail (p := q) (by omega)]
  | case6 p a q b hlt hgt ih =>
    have hpq : p.1 = q.1 := by omega
    intro x hx
    rcases List.mem_cons.1 hx with rfl | hx
    · simp only; rw [getL_head, ← hpq, getL_head]
    · rw [ih ha.tail hb.tail x hx]
      have hlt2 : q.1 < x.1 := by
        rcases mergeB_mem hx with ⟨r, hr, he⟩ | ⟨r, hr, he⟩
        · have := ha.head r hr; omega
        · have := hb.head r hr; omega
      rw [getL_tail (p := q) (by omega), getL_tail (p := p) (by omega)]
theorem merge_or {a b : Lab} (ha : SortedP a) (hb : SortedP b) (c : Int) : (∃ x ∈ mergeB a b, x.1 = c ∧ x.2 = (getL a c, getL b c)) ∨ ((∀ x ∈ mergeB a b, x.1 ≠ c) ∧ getL a c = 2 ∧ getL b c = 2) := by
  by_cases h : ∃ x ∈ mergeB a b, x.1 = c
  · obtain ⟨x, hx, rfl⟩ := h
    exact .inl ⟨x, hx, rfl, mergeB_val ha hb x hx⟩
  · have h' : ∀ x ∈ mergeB a b, x.1 ≠ c := fun x hx he => h ⟨x, hx, he⟩
    refine .inr ⟨h', getL_out fun p hp he => ?_, getL_out fun q hq he => ?_⟩
    · obtain ⟨x, hx, h2⟩ := mergeB_all.1 p hp; exact h' x hx (by omega)
    · obtain ⟨x, hx, h2⟩ := mergeB_all.2 q hq; exact h' x hx (by omega)
theorem foldB_mem {F : Int → Int → Int} {a b : Lab} {p : Int × Int} (hp : p ∈ foldB F a b) : ∃ x ∈ mergeB a b, p = (x.1, F x.2.1 x.2.2) ∧ F x.2.1 x.2.2 ≠ 2 := by
  unfold foldB foldX at hp
  rw [List.mem_filterMap] at hp
  obtain ⟨x, hx, he⟩ := hp
  split at he
  · simp at he
  · rename_i h; simp at he; exact ⟨x, hx, he.symm, h⟩
theorem foldB_sorted (F : Int → Int → Int) {a b : Lab} (ha : SortedP a) (hb : SortedP b) : SortedP (foldB F a b) := by
  unfold foldB foldX SortedP
  refine List.Pairwise.filterMap _ ?_ (mergeB_sorted ha hb)
  intro x y hxy p hp q hq
  split at hp
  · simp at hp
  · split at hq
    · simp at hq
    · simp at hp hq; subst hp; subst hq; exact hxy
theorem fold_get {F : Int → Int → Int} (hF : F 2 2 = 2) {a b : Lab} (ha : SortedP a) (hb : SortedP b) (c : Int) : getL (foldB F a b) c = F (getL a c) (getL b c) := by
  rcases merge_or ha hb c with ⟨x, hx, rfl, he⟩ | ⟨hn, h1, h2⟩
  · have e1 : x.2.1 = getL a x.1 := by rw [he]
    have e2 : x.2.2 = getL b x.1 := by rw [he]
    by_cases h : F x.2.1 x.2.2 = 2
    · rw [← e1, ← e2, h]
      refine getL_out fun p hp hpc => ?_
      obtain ⟨y, hy, rfl, hy2⟩ := foldB_mem hp
      have hv := mergeB_val ha hb y hy
      have : y.1 = x.1 := hpc
      rw [this, ← he] at hv
      rw [hv] at hy2
      exact hy2 h
    · have hm : (x.1, F x.2.1 x.2.2) ∈ foldB F a b := by
        unfold foldB foldX
        rw [List.mem_filterMap]
        exact ⟨x, hx, by rw [if_neg h]⟩
      rw [getL_mem (foldB_sorted F ha hb) hm, e1, e2]
  · rw [h1, h2, hF]
    refine getL_out fun p hp hpc => ?_
    obtain ⟨y, hy, rfl, _⟩ := foldB_mem hp
    exact hn y hy hpc
theorem foldB_fit {F : Int → Int → Int} (hF : ∀ x y, 0 ≤ F x y ∧ F x y ≤ 5) {a b : Lab} (ha : SortedP a) (hb : SortedP b) : FitL (foldB F a b) := by
  refine ⟨foldB_sorted F ha hb, fun p hp => ?_⟩
  obtain ⟨x, hx, rfl, h2⟩ := foldB_mem hp
  exact ⟨(hF _ _).1, (hF _ _).2, h2⟩
theorem leqB_iff {a b : Lab} (ha : FitL a) (hb : FitL b) : leqB a b = true ↔ ∀ c, getL a c ≤ getL b c := by
  unfold leqB
  rw [List.all_eq_true]
  constructor
  · intro h c
    rcases merge_or ha.sorted hb.sorted c with ⟨x, hx, rfl, he⟩ | ⟨_, h1, h2⟩
    · have := of_decide_eq_true (h x hx)
      rw [he] at this
      simpa only [ofL_get ha, ofL_get hb] using this
    · omega
  · intro h x hx
    have he := mergeB_val ha.sorted hb.sorted x hx
    rw [he]
    simp only [ofL_get ha, ofL_get hb]
    exact decide_eq_true (h x.1)
theorem foldB_len (F : Int → Int → Int) (a b : Lab) : (foldB F a b).length ≤ a.length + b.length := Nat.le_trans (foldX_len _ _) (mergeB_len _ _)
theorem raL_range (x : Int) : 0 ≤ raL x ∧ raL x ≤ 5 := by have := ofL_range x; unfold raL; split <;> omega
end Go.Proofs.Ytggkjfllbfcagaa
end

section
namespace Go.Proofs.Ytggkjfllbfcagaa
open Go Go.RowKit
set_option linter.unusedVariables false
set_option linter.unusedSimpArgs false
set_option maxHeartbeats 16000000
set_option maxRecDepth 100000
attribute [local irreducible] pwOps dr pwCode Ex.then Ex.inBlock retQ okAll drawOk Pure CSat evOp calleeP rdOf upd hset strip sp0 cut envL heapL Again Keep BdL evBs AgainK KeepK
/-! Worlds: few, the same, fit; pages; raised labels. -/
def briefAt (l : List Ob) (k : Nat) : Bool := match l[k]? with
  | some x => briefOb x
  | none => true
def fewWd (w : Wd) : Bool := !decide ((w.objects.length : Int) > 20) && allB w.objects.length (briefAt w.objects)
def fitO (w : Wd) : Bool := decide (w.time ≥ 0) && (decide (w.time ≤ 1099511627776) && (decide ((w.objects.length : Int) ≤ 1024) && (allB (w.objects.length - 1) (upAt Ob.id w.objects) && !w.objects.any (fun o => !soundO o))))
def eqAt (l k : List Ob) (j : Nat) : Bool := match l[j]? with
  | some x => match k[j]? with
    | some y => sameOb x y
    | none => true
  | none => true
def eqObs (l k : List Ob) : Bool := decide (l.length = k.length) && allB l.length (eqAt l k)
def sameWd (a b : Wd) : Bool := a.time == b.time && (a.key == b.key && (a.root == b.root && eqObs a.objects b.objects))
theorem r13_sameW (a b : Wd) (ha : a.L) : Pure Try.prog 101 [.agg (Wd.enc a), .agg (Wd.enc b)] (.bool (sameWd a b)) := by
  refine pureI (by kernel_rfl) (by simp only [go_sem, *]) (by simp only [go_sem, *]) Try.func101 Try.results101 rfl (by simp [Try.ntmps101]) (by kernel_rfl) ?_
  obtain ⟨hl, ho⟩ := ha
  by_cases hlen : a.objects.length = b.objects.length
  · have hd : decide (a.objects.length = b.objects.length) = true := decide_eq_true hlen
    have hlen' : ((a.objects.length : Int) == (b.objects.length : Int)) = true := by simp; omega
    repeat' (first
    | (show pwOps ..; first | refine pops_nil ?_ | refine pops_n rfl ?_ | refine pops_w' rfl rfl ?_)
    | (show runGo ..; first | refine run_ev rfl rfl ?_ | refine run_call rfl ?_)
    | (show goOn ..; first | refine on_nop ?_ | refine on_new ?_ | refine on_put ?_ | refine on_born ?_ | refine on_grow ?_)
    | (show putGo ..; refine put_box ?_)
    | (show wGo ..; first | refine gw_tt ?_ | refine gw_ff ?_ | refine gw_tf ?_ | refine gw_ft ?_ | refine gw_u ?_ | refine gw_tn (fun _ => ?_) (fun _ => ?_) | refine gw_fn (fun _ => ?_) (fun _ => ?_) | refine gw_tb (fun _ => ?_) (fun _ => ?_) | refine gw_fb (fun _ => ?_) (fun _ => ?_))
    | (show dr ..; first | refine dr_nil ?_ | refine dr_n rfl ?_ | refine dr_w' rfl rfl ?_)
    | (show drGo ..; first | refine dr_ev rfl ?_ | refine dr_call rfl ?_)
    | (show drOn ..; first | refine dn_nop ?_ | refine dn_new ?_ | refine dn_put ?_ | refine dn_born ?_ | refine dn_grow ?_)
    | (show dputGo ..; refine dput_box ?_)
    | (refine And.intro (by kernel_rfl : okAll _ = true) ?_)
    | (show pwCode ..; first | refine pc_seq ?_ | refine pc_region ?_ | refine pc_draw (by kernel_rfl) ?_ | refine pc_ret ?_ | refine pc_skip ?_ | refine pc_block ?_ | refine pc_exit ?_ | refine pc_cond ?_)
    | (show condGo ..; first | refine cd_t ?_ | refine cd_f ?_ | refine cd_n (fun _ => ?_) (fun _ => ?_) | refine cd_b (fun _ => ?_) (fun _ => ?_))
    | refine th_normal ?_
    | refine th_ret ?_
    | refine th_exit ?_
    | refine th_pan ?_
    | refine bl_normal ?_
    | refine bl_exit ?_
    | refine bl_pass rfl ?_
    | refine bl_ret ?_
    | refine bl_pan ?_
    | (show retQ ..; first | refine rt_ret ?_ | refine rt_normal ?_)
    | refine rs_some ?_)
    all_goals first | (refine ret_of ?_; unfold sameWd; simp only [*, Bool.not_true, Bool.not_false, Bool.and_true, Bool.true_and, Bool.and_false, Bool.false_and, Bool.or_true, Bool.true_or, Bool.or_false, Bool.false_or, Bool.and_self, Bool.or_self, decide_true, decide_false, Bool.not_not, if_true, if_false, Bool.false_eq_true, eq_self]; done) | skip
    rename_i t1 t2 t3
    refine pc_loop (S := Nat) (fun n => a.objects.length - n) (fun n => n ≤ a.objects.length ∧ ∀ j, j < n → eqAt a.objects b.objects j = true) (fun n => [(2, .ptr 0 0), (3, .ptr 1 0), (5, .int .i64 n)]) (fun _ => [(0, .box (Wd.enc a)), (1, .box (Wd.enc b))]) (fun _ => 2) 0 ⟨Nat.zero_le _, fun j hj => absurd hj (Nat.not_lt_zero j)⟩ (by (refine keepI ?_ ?_ <;> repeat' (first | exact ke_nil | exact kg_nil | refine ke_cons (by (try simp only [go_sem, *]); try rfl) (by simp only [go_sem, *]) ?_ | refine kg_box (by (try simp only [go_sem, *]); try rfl) (by omega) (by simp only [go_sem, *]) ?_ | refine kg_row (by (try simp only [go_sem, *]); try rfl) (by omega) (by simp only [go_sem, *]) ?_))) ?_
    rintro n ⟨hn, hs⟩
    have fin : ∀ c, allB a.objects.length (eqAt a.objects b.objects) = c → c = sameWd a b := fun c hb => by unfold sameWd eqObs; rw [hb, hd, t1, t2, t3]; rfl
    rcases Nat.lt_or_ge n a.objects.length with hlt | hge
    · obtain ⟨x, hx⟩ := lt_len hlt
      obtain ⟨y, hy⟩ := lt_len (hlen ▸ hlt : n < b.objects.length)
      have h0 := lt_true hlt
      have hk0 := lt_true (hlen ▸ hlt : n < b.objects.length)
      have h4 := wrap_nat n (by omega)
      have hLx := (ho x (List.mem_of_getElem? hx)).1
      have e : eqAt a.objects b.objects n = sameOb x y := by unfold eqAt; rw [hx]; simp only [hy]
      repeat' (first
    | (show pwOps ..; first | refine pops_nil ?_ | refine pops_n rfl ?_ | refine pops_w' rfl rfl ?_)
    | (show runGo ..; first | refine run_ev rfl rfl ?_ | refine run_call rfl ?_)
    | (show goOn ..; first | refine on_nop ?_ | refine on_new ?_ | refine on_put ?_ | refine on_born ?_ | refine on_grow ?_)
    | (show putGo ..; refine put_box ?_)
    | (show callGo ..; (refine call_pure (r := ?_) ?_ ?_; rotate_left 1; (focus first | exact r13_sameOne _ _ hLx)))
    | (show wGo ..; first | refine gw_tt ?_ | refine gw_ff ?_ | refine gw_tf ?_ | refine gw_ft ?_ | refine gw_u ?_ | refine gw_tn (fun _ => ?_) (fun _ => ?_) | refine gw_fn (fun _ => ?_) (fun _ => ?_) | refine gw_tb (fun _ => ?_) (fun _ => ?_) | refine gw_fb (fun _ => ?_) (fun _ => ?_))
    | (show dr ..; first | refine dr_nil ?_ | refine dr_n rfl ?_ | refine dr_w' rfl rfl ?_)
    | (show drGo ..; first | refine dr_ev rfl ?_ | refine dr_call rfl ?_)
    | (show drOn ..; first | refine dn_nop ?_ | refine dn_new ?_ | refine dn_put ?_ | refine dn_born ?_ | refine dn_grow ?_)
    | (show dputGo ..; refine dput_box ?_)
    | (show dcallGo ..; (refine dcall_pure (r := ?_) ?_ ?_; rotate_left 1; (focus first | exact r13_sameOne _ _ hLx)))
    | (refine And.intro (by kernel_rfl : okAll _ = true) ?_)
    | (show pwCode ..; first | refine pc_seq ?_ | refine pc_region ?_ | refine pc_draw (by kernel_rfl) ?_ | refine pc_ret ?_ | refine pc_skip ?_ | refine pc_block ?_ | refine pc_exit ?_ | refine pc_cond ?_)
    | (show condGo ..; first | refine cd_t ?_ | refine cd_f ?_ | refine cd_n (fun _ => ?_) (fun _ => ?_) | refine cd_b (fun _ => ?_) (fun _ => ?_))
    | refine th_normal ?_
    | refine th_ret ?_
    | refine th_exit ?_
    | refine th_pan ?_
    | refine bl_normal ?_
    | refine bl_exit ?_
    | refine bl_pass rfl ?_
    | refine bl_ret ?_
    | refine bl_pan ?_
    | (show retQ ..; first | refine rt_ret ?_ | refine rt_normal ?_)
    | refine rs_some ?_)
      all_goals first
        | (refine ret_of (fin _ (allB_false hlt ?_)); simp only [*, Bool.not_true, Bool.not_false, Bool.and_true, Bool.true_and, Bool.and_false, Bool.false_and, Bool.or_true, Bool.true_or, Bool.or_false, Bool.false_or, Bool.and_self, Bool.or_self, decide_true, decide_false, Bool.not_not, if_true, if_false, Bool.false_eq_true, eq_self])
        | (refine again (n + 1) ⟨?_, up_to hs ?_⟩ ?_ (by (refine keepI ?_ ?_ <;> repeat' (first | exact ke_nil | exact kg_nil | refine ke_cons (by (try simp only [go_sem, *]); try rfl) (by simp only [go_sem, *]) ?_ | refine kg_box (by (try simp only [go_sem, *]); try rfl) (by omega) (by simp only [go_sem, *]) ?_ | refine kg_row (by (try simp only [go_sem, *]); try rfl) (by omega) (by simp only [go_sem, *]) ?_))); (focus omega); (focus simp only [*, Bool.not_true, Bool.not_false, Bool.and_true, Bool.true_and, Bool.and_false, Bool.false_and, Bool.or_true, Bool.true_or, Bool.or_false, Bool.false_or, Bool.and_self, Bool.or_self, decide_true, decide_false, Bool.not_not, if_true, if_false, Bool.false_eq_true, eq_self]); (focus omega))
    · have h0 := lt_false hge
      have hk0 := lt_false (by omega : b.objects.length ≤ n)
      repeat' (first
    | (show pwOps ..; first | refine pops_nil ?_ | refine pops_n rfl ?_ | refine pops_w' rfl rfl ?_)
    | (show runGo ..; first | refine run_ev rfl rfl ?_ | refine run_call rfl ?_)
    | (show goOn ..; first | refine on_nop ?_ | refine on_new ?_ | refine on_put ?_ | refine on_born ?_ | refine on_grow ?_)
    | (show putGo ..; refine put_box ?_)
    | (show wGo ..; first | refine gw_tt ?_ | refine gw_ff ?_ | refine gw_tf ?_ | refine gw_ft ?_ | refine gw_u ?_ | refine gw_tn (fun _ => ?_) (fun _ => ?_) | refine gw_fn (fun _ => ?_) (fun _ => ?_) | refine gw_tb (fun _ => ?_) (fun _ => ?_) | refine gw_fb (fun _ => ?_) (fun _ => ?_))
    | (show dr ..; first | refine dr_nil ?_ | refine dr_n rfl ?_ | refine dr_w' rfl rfl ?_)
    | (show drGo ..; first | refine dr_ev rfl ?_ | refine dr_call rfl ?_)
    | (show drOn ..; first | refine dn_nop ?_ | refine dn_new ?_ | refine dn_put ?_ | refine dn_born ?_ | refine dn_grow ?_)
    | (show dputGo ..; refine dput_box ?_)
    | (refine And.intro (by kernel_rfl : okAll _ = true) ?_)
    | (show pwCode ..; first | refine pc_seq ?_ | refine pc_region ?_ | refine pc_draw (by kernel_rfl) ?_ | refine pc_ret ?_ | refine pc_skip ?_ | refine pc_block ?_ | refine pc_exit ?_ | refine pc_cond ?_)
    | (show condGo ..; first | refine cd_t ?_ | refine cd_f ?_ | refine cd_n (fun _ => ?_) (fun _ => ?_) | refine cd_b (fun _ => ?_) (fun _ => ?_))
    | refine th_normal ?_
    | refine th_ret ?_
    | refine th_exit ?_
    | refine th_pan ?_
    | refine bl_normal ?_
    | refine bl_exit ?_
    | refine bl_pass rfl ?_
    | refine bl_ret ?_
    | refine bl_pan ?_
    | (show retQ ..; first | refine rt_ret ?_ | refine rt_normal ?_)
    | refine rs_some ?_)
      exact ret_of (fin _ (allB_true fun j hj => hs j (by omega)))
  · have hlen' : ((a.objects.length : Int) == (b.objects.length : Int)) = false := by simp; omega
    have hd : decide (a.objects.length = b.objects.length) = false := decide_eq_false hlen
    repeat' (first
    | (show pwOps ..; first | refine pops_nil ?_ | refine pops_n rfl ?_ | refine pops_w' rfl rfl ?_)
    | (show runGo ..; first | refine run_ev rfl rfl ?_ | refine run_call rfl ?_)
    | (show goOn ..; first | refine on_nop ?_ | refine on_new ?_ | refine on_put ?_ | refine on_born ?_ | refine on_grow ?_)
    | (show putGo ..; refine put_box ?_)
    | (show wGo ..; first | refine gw_tt ?_ | refine gw_ff ?_ | refine gw_tf ?_ | refine gw_ft ?_ | refine gw_u ?_ | refine gw_tn (fun _ => ?_) (fun _ => ?_) | refine gw_fn (fun _ => ?_) (fun _ => ?_) | refine gw_tb (fun _ => ?_) (fun _ => ?_) | refine gw_fb (fun _ => ?_) (fun _ => ?_))
    | (show dr ..; first | refine dr_nil ?_ | refine dr_n rfl ?_ | refine dr_w' rfl rfl ?_)
    | (show drGo ..; first | refine dr_ev rfl ?_ | refine dr_call rfl ?_)
    | (show drOn ..; first | refine dn_nop ?_ | refine dn_new ?_ | refine dn_put ?_ | refine dn_born ?_ | refine dn_grow ?_)
    | (show dputGo ..; refine dput_box ?_)
    | (refine And.intro (by kernel_rfl : okAll _ = true) ?_)
    | (show pwCode ..; first | refine pc_seq ?_ | refine pc_region ?_ | refine pc_draw (by kernel_rfl) ?_ | refine pc_ret ?_ | refine pc_skip ?_ | refine pc_block ?_ | refine pc_exit ?_ | refine pc_cond ?_)
    | (show condGo ..; first | refine cd_t ?_ | refine cd_f ?_ | refine cd_n (fun _ => ?_) (fun _ => ?_) | refine cd_b (fun _ => ?_) (fun _ => ?_))
    | refine th_normal ?_
    | refine th_ret ?_
    | refine th_exit ?_
    | refine th_pan ?_
    | refine bl_normal ?_
    | refine bl_exit ?_
    | refine bl_pass rfl ?_
    | refine bl_ret ?_
    | refine bl_pan ?_
    | (show retQ ..; first | refine rt_ret ?_ | refine rt_normal ?_)
    | refine rs_some ?_)
    all_goals (refine ret_of ?_; unfold sameWd eqObs; rw [hd]; simp only [*, Bool.not_true, Bool.not_false, Bool.and_true, Bool.true_and, Bool.and_false, Bool.false_and, Bool.or_true, Bool.true_or, Bool.or_false, Bool.false_or, Bool.and_self, Bool.or_self, decide_true, decide_false, Bool.not_not, if_true, if_false, Bool.false_eq_true, eq_self])
def pagesO (o : Ob) : Int := if decide ((o.data.length : Int).tmod 16 > 0) = true then IntKind.i64.wrap (IntKind.i64.wrap (IntKind.i64.wrap ((o.data.length : Int).tdiv 16) + 1) + 1) else IntKind.i64.wrap (IntKind.i64.wrap ((o.data.length : Int).tdiv 16) + 1)
theorem obj_pages (o : Ob) : Pure Try.prog 113 [.agg (Ob.enc o)] (.int .i64 (pagesO o)) := by
  refine pureI (by kernel_rfl) (by simp only [go_sem, *]) (by simp only [go_sem, *]) Try.func113 Try.results113 rfl (by simp [Try.ntmps113]) (by kernel_rfl) ?_
  repeat' (first
    | (show pwOps ..; first | refine pops_nil ?_ | refine pops_n rfl ?_ | refine pops_w' rfl rfl ?_)
    | (show runGo ..; first | refine run_ev rfl rfl ?_ | refine run_call rfl ?_)
    | (show goOn ..; first | refine on_nop ?_ | refine on_new ?_ | refine on_put ?_ | refine on_born ?_ | refine on_grow ?_)
    | (show putGo ..; refine put_box ?_)
    | (show wGo ..; first | refine gw_tt ?_ | refine gw_ff ?_ | refine gw_tf ?_ | refine gw_ft ?_ | refine gw_u ?_ | refine gw_tn (fun _ => ?_) (fun _ => ?_) | refine gw_fn (fun _ => ?_) (fun _ => ?_) | refine gw_tb (fun _ => ?_) (fun _ => ?_) | refine gw_fb (fun _ => ?_) (fun _ => ?_))
    | (show dr ..; first | refine dr_nil ?_ | refine dr_n rfl ?_ | refine dr_w' rfl rfl ?_)
    | (show drGo ..; first | refine dr_ev rfl ?_ | refine dr_call rfl ?_)
    | (show drOn ..; first | refine dn_nop ?_ | refine dn_new ?_ | refine dn_put ?_ | refine dn_born ?_ | refine dn_grow ?_)
    | (show dputGo ..; refine dput_box ?_)
    | (refine And.intro (by kernel_rfl : okAll _ = true) ?_)
    | (show pwCode ..; first | refine pc_seq ?_ | refine pc_region ?_ | refine pc_draw (by kernel_rfl) ?_ | refine pc_ret ?_ | refine pc_skip ?_ | refine pc_block ?_ | refine pc_exit ?_ | refine pc_cond ?_)
    | (show condGo ..; first | refine cd_t ?_ | refine cd_f ?_ | refine cd_n (fun _ => ?_) (fun _ => ?_) | refine cd_b (fun _ => ?_) (fun _ => ?_))
    | refine th_normal ?_
    | refine th_ret ?_
    | refine th_exit ?_
    | refine th_pan ?_
    | refine bl_normal ?_
    | refine bl_exit ?_
    | refine bl_pass rfl ?_
    | refine bl_ret ?_
    | refine bl_pan ?_
    | (show retQ ..; first | refine rt_ret ?_ | refine rt_normal ?_)
    | refine rs_some ?_)
  all_goals (rename_i hc; unfold pagesO; rw [hc]; rfl)
def pagesR (o : Ob) : Int := IntKind.i64.wrap (1 + IntKind.i64.wrap ((IntKind.i64.wrap (IntKind.i64.wrap ((o.data.length : Int) + 16) - 1)).tdiv 16))
theorem r13_pages (o : Ob) : Pure Try.prog 173 [.agg (Ob.enc o)] (.int .i64 (pagesR o)) := by
  refine pureI (by kernel_rfl) (by simp only [go_sem, *]) (by simp only [go_sem, *]) Try.func173 Try.results173 rfl (by simp [Try.ntmps173]) (by kernel_rfl) ?_
  repeat' (first
    | (show pwOps ..; first | refine pops_nil ?_ | refine pops_n rfl ?_ | refine pops_w' rfl rfl ?_)
    | (show runGo ..; first | refine run_ev rfl rfl ?_ | refine run_call rfl ?_)
    | (show goOn ..; first | refine on_nop ?_ | refine on_new ?_ | refine on_put ?_ | refine on_born ?_ | refine on_grow ?_)
    | (show putGo ..; refine put_box ?_)
    | (show wGo ..; first | refine gw_tt ?_ | refine gw_ff ?_ | refine gw_tf ?_ | refine gw_ft ?_ | refine gw_u ?_ | refine gw_tn (fun _ => ?_) (fun _ => ?_) | refine gw_fn (fun _ => ?_) (fun _ => ?_) | refine gw_tb (fun _ => ?_) (fun _ => ?_) | refine gw_fb (fun _ => ?_) (fun _ => ?_))
    | (show dr ..; first | refine dr_nil ?_ | refine dr_n rfl ?_ | refine dr_w' rfl rfl ?_)
    | (show drGo ..; first | refine dr_ev rfl ?_ | refine dr_call rfl ?_)
    | (show drOn ..; first | refine dn_nop ?_ | refine dn_new ?_ | refine dn_put ?_ | refine dn_born ?_ | refine dn_grow ?_)
    | (show dputGo ..; refine dput_box ?_)
    | (refine And.intro (by kernel_rfl : okAll _ = true) ?_)
    | (show pwCode ..; first | refine pc_seq ?_ | refine pc_region ?_ | refine pc_draw (by kernel_rfl) ?_ | refine pc_ret ?_ | refine pc_skip ?_ | refine pc_block ?_ | refine pc_exit ?_ | refine pc_cond ?_)
    | (show condGo ..; first | refine cd_t ?_ | refine cd_f ?_ | refine cd_n (fun _ => ?_) (fun _ => ?_) | refine cd_b (fun _ => ?_) (fun _ => ?_))
    | refine th_normal ?_
    | refine th_ret ?_
    | refine th_exit ?_
    | refine th_pan ?_
    | refine bl_normal ?_
    | refine bl_exit ?_
    | refine bl_pass rfl ?_
    | refine bl_ret ?_
    | refine bl_pan ?_
    | (show retQ ..; first | refine rt_ret ?_ | refine rt_normal ?_)
    | refine rs_some ?_)
  all_goals rfl
theorem r13_sameLabel (a b : List Pr) (hl : a.length ≤ 9223372036854775807) : Pure Try.prog 63 [.sl (a.map Pr.enc), .sl (b.map Pr.enc)] (.bool (decide (a = b))) := by
  refine pureI (by kernel_rfl) (by simp only [go_sem, *]) (by simp only [go_sem, *]) Try.func63 Try.results63 rfl (by simp [Try.ntmps63]) (by kernel_rfl) ?_
  repeat' (first
    | (show pwOps ..; first | refine pops_nil ?_ | refine pops_n rfl ?_ | refine pops_w' rfl rfl ?_)
    | (show runGo ..; first | refine run_ev rfl rfl ?_ | refine run_call rfl ?_)
    | (show goOn ..; first | refine on_nop ?_ | refine on_new ?_ | refine on_put ?_ | refine on_born ?_ | refine on_grow ?_)
    | (show putGo ..; refine put_box ?_)
    | (show callGo ..; (refine call_pure (r := ?_) ?_ ?_; rotate_left 1; (focus first | exact r2_same _ _ hl)))
    | (show wGo ..; first | refine gw_tt ?_ | refine gw_ff ?_ | refine gw_tf ?_ | refine gw_ft ?_ | refine gw_u ?_ | refine gw_tn (fun _ => ?_) (fun _ => ?_) | refine gw_fn (fun _ => ?_) (fun _ => ?_) | refine gw_tb (fun _ => ?_) (fun _ => ?_) | refine gw_fb (fun _ => ?_) (fun _ => ?_))
    | (show dr ..; first | refine dr_nil ?_ | refine dr_n rfl ?_ | refine dr_w' rfl rfl ?_)
    | (show drGo ..; first | refine dr_ev rfl ?_ | refine dr_call rfl ?_)
    | (show drOn ..; first | refine dn_nop ?_ | refine dn_new ?_ | refine dn_put ?_ | refine dn_born ?_ | refine dn_grow ?_)
    | (show dputGo ..; refine dput_box ?_)
    | (show dcallGo ..; (refine dcall_pure (r := ?_) ?_ ?_; rotate_left 1; (focus first | exact r2_same _ _ hl)))
    | (refine And.intro (by kernel_rfl : okAll _ = true) ?_)
    | (show pwCode ..; first | refine pc_seq ?_ | refine pc_region ?_ | refine pc_draw (by kernel_rfl) ?_ | refine pc_ret ?_ | refine pc_skip ?_ | refine pc_block ?_ | refine pc_exit ?_ | refine pc_cond ?_)
    | (show condGo ..; first | refine cd_t ?_ | refine cd_f ?_ | refine cd_n (fun _ => ?_) (fun _ => ?_) | refine cd_b (fun _ => ?_) (fun _ => ?_))
    | refine th_normal ?_
    | refine th_ret ?_
    | refine th_exit ?_
    | refine th_pan ?_
    | refine bl_normal ?_
    | refine bl_exit ?_
    | refine bl_pass rfl ?_
    | refine bl_ret ?_
    | refine bl_pan ?_
    | (show retQ ..; first | refine rt_ret ?_ | refine rt_normal ?_)
    | refine rs_some ?_)
  all_goals rfl
def levUp (n : Int) : Int := if (levOf n == 0) = true then 5 else levOf n
theorem r01_raise (n : Int) : Pure Try.prog 132 [.int .i64 n] (.int .i64 (levUp n)) := by
  refine pureI (by kernel_rfl) (by simp only [go_sem, *]) (by simp only [go_sem, *]) Try.func132 Try.results132 rfl (by simp [Try.ntmps132]) (by kernel_rfl) ?_
  repeat' (first
    | (show pwOps ..; first | refine pops_nil ?_ | refine pops_n rfl ?_ | refine pops_w' rfl rfl ?_)
    | (show runGo ..; first | refine run_ev rfl rfl ?_ | refine run_call rfl ?_)
    | (show goOn ..; first | refine on_nop ?_ | refine on_new ?_ | refine on_put ?_ | refine on_born ?_ | refine on_grow ?_)
    | (show putGo ..; refine put_box ?_)
    | (show callGo ..; (refine call_pure (r := ?_) ?_ ?_; rotate_left 1; (focus first | exact r01_of _)))
    | (show wGo ..; first | refine gw_tt ?_ | refine gw_ff ?_ | refine gw_tf ?_ | refine gw_ft ?_ | refine gw_u ?_ | refine gw_tn (fun _ => ?_) (fun _ => ?_) | refine gw_fn (fun _ => ?_) (fun _ => ?_) | refine gw_tb (fun _ => ?_) (fun _ => ?_) | refine gw_fb (fun _ => ?_) (fun _ => ?_))
    | (show dr ..; first | refine dr_nil ?_ | refine dr_n rfl ?_ | refine dr_w' rfl rfl ?_)
    | (show drGo ..; first | refine dr_ev rfl ?_ | refine dr_call rfl ?_)
    | (show drOn ..; first | refine dn_nop ?_ | refine dn_new ?_ | refine dn_put ?_ | refine dn_born ?_ | refine dn_grow ?_)
    | (show dputGo ..; refine dput_box ?_)
    | (show dcallGo ..; (refine dcall_pure (r := ?_) ?_ ?_; rotate_left 1; (focus first | exact r01_of _)))
    | (refine And.intro (by kernel_rfl : okAll _ = true) ?_)
    | (show pwCode ..; first | refine pc_seq ?_ | refine pc_region ?_ | refine pc_draw (by kernel_rfl) ?_ | refine pc_ret ?_ | refine pc_skip ?_ | refine pc_block ?_ | refine pc_exit ?_ | refine pc_cond ?_)
    | (show condGo ..; first | refine cd_t ?_ | refine cd_f ?_ | refine cd_n (fun _ => ?_) (fun _ => ?_) | refine cd_b (fun _ => ?_) (fun _ => ?_))
    | refine th_normal ?_
    | refine th_ret ?_
    | refine th_exit ?_
    | refine th_pan ?_
    | refine bl_normal ?_
    | refine bl_exit ?_
    | refine bl_pass rfl ?_
    | refine bl_ret ?_
    | refine bl_pan ?_
    | (show retQ ..; first | refine rt_ret ?_ | refine rt_normal ?_)
    | refine rs_some ?_)
  all_goals (unfold levUp; simp only [*, if_true, if_false, Bool.false_eq_true]; try rfl)
def upPr (p : Pr) : Pr := ⟨p.cat, levUp p.lev⟩
theorem r2_raise (l : List Pr) (hl : l.length ≤ 900000) : Pure Try.prog 99 [.sl (l.map Pr.enc)] (.sl ((l.map upPr).map Pr.enc)) := by
  refine pureI (by kernel_rfl) (by simp only [go_sem, *]) (by simp only [go_sem, *]) Try.func99 Try.results99 rfl (by simp [Try.ntmps99]) (by kernel_rfl) ?_
  repeat' (first
    | (show pwOps ..; first | refine pops_nil ?_ | refine pops_n rfl ?_ | refine pops_w' rfl rfl ?_)
    | (show runGo ..; first | refine run_ev rfl rfl ?_ | refine run_call rfl ?_)
    | (show goOn ..; first | refine on_nop ?_ | refine on_new ?_ | refine on_put ?_ | refine on_born ?_ | refine on_grow ?_)
    | (show putGo ..; refine put_box ?_)
    | (show wGo ..; first | refine gw_tt ?_ | refine gw_ff ?_ | refine gw_tf ?_ | refine gw_ft ?_ | refine gw_u ?_ | refine gw_tn (fun _ => ?_) (fun _ => ?_) | refine gw_fn (fun _ => ?_) (fun _ => ?_) | refine gw_tb (fun _ => ?_) (fun _ => ?_) | refine gw_fb (fun _ => ?_) (fun _ => ?_))
    | (show dr ..; first | refine dr_nil ?_ | refine dr_n rfl ?_ | refine dr_w' rfl rfl ?_)
    | (show drGo ..; first | refine dr_ev rfl ?_ | refine dr_call rfl ?_)
    | (show drOn ..; first | refine dn_nop ?_ | refine dn_new ?_ | refine dn_put ?_ | refine dn_born ?_ | refine dn_grow ?_)
    | (show dputGo ..; refine dput_box ?_)
    | (refine And.intro (by kernel_rfl : okAll _ = true) ?_)
    | (show pwCode ..; first | refine pc_seq ?_ | refine pc_region ?_ | refine pc_draw (by kernel_rfl) ?_ | refine pc_ret ?_ | refine pc_skip ?_ | refine pc_block ?_ | refine pc_exit ?_ | refine pc_cond ?_)
    | (show condGo ..; first | refine cd_t ?_ | refine cd_f ?_ | refine cd_n (fun _ => ?_) (fun _ => ?_) | refine cd_b (fun _ => ?_) (fun _ => ?_))
    | refine th_normal ?_
    | refine th_ret ?_
    | refine th_exit ?_
    | refine th_pan ?_
    | refine bl_normal ?_
    | refine bl_exit ?_
    | refine bl_pass rfl ?_
    | refine bl_ret ?_
    | refine bl_pan ?_
    | (show retQ ..; first | refine rt_ret ?_ | refine rt_normal ?_)
    | refine rs_some ?_)
  refine pc_loop (S := Nat × List Pr × Nat) (fun s => l.length - s.1) (fun s => s.1 ≤ l.length ∧ (l.take s.1).map upPr = s.2.1) (fun s => [(0, .sl (l.map Pr.enc)), (3, accV s.2.2 s.2.1), (4, .int .i64 s.1)]) (fun s => accG s.2.2 100 2 Pr.enc s.2.1) (fun s => accM 0 s.2.2 s.2.1) (0, [], 0) ⟨Nat.zero_le _, rfl⟩ (by simp only [accV_nil, accG_nil, accM_nil]; (refine keepI ?_ ?_ <;> repeat' (first | exact ke_nil | exact kg_nil | refine ke_cons (by (try simp only [go_sem, *]); try rfl) (by simp only [go_sem, *]) ?_ | refine kg_box (by (try simp only [go_sem, *]); try rfl) (by omega) (by simp only [go_sem, *]) ?_ | refine kg_row (by (try simp only [go_sem, *]); try rfl) (by omega) (by simp only [go_sem, *]) ?_))) ?_
  rintro ⟨n, acc, id⟩ ⟨hn, hs⟩
  simp only at hn hs
  have ha : acc.length < 1000000 := by rw [← hs]; simp only [List.length_map, List.length_take]; omega
  have hb1 := app_max ha
  have hb2 := app_by (b := 16) ha (by decide)
  rcases Nat.lt_or_ge n l.length with hlt | hge
  · obtain ⟨x, hx⟩ := lt_len hlt
    have h0 := lt_true hlt
    have h4 := wrap_nat n (by omega)
    have hy : (l.take (n + 1)).map upPr = (l.take n).map upPr ++ [upPr x] := by rw [take_snoc hx, List.map_append]; rfl
    rcases or_nil acc with hnil | hne
    · subst hnil
      simp only [accV_nil, accG_nil, accM_nil]
      repeat' (first
    | (show pwOps ..; first | refine pops_nil ?_ | refine pops_n rfl ?_ | refine pops_w' rfl rfl ?_)
    | (show runGo ..; first | refine run_ev rfl rfl ?_ | refine run_call rfl ?_)
    | (show goOn ..; first | refine on_nop ?_ | refine on_new ?_ | refine on_put ?_ | refine on_born ?_ | refine on_grow ?_)
    | (show putGo ..; refine put_box ?_)
    | (show callGo ..; (refine call_pure (r := ?_) ?_ ?_; rotate_left 1; (focus first | exact r01_raise _)))
    | (show wGo ..; first | refine gw_tt ?_ | refine gw_ff ?_ | refine gw_tf ?_ | refine gw_ft ?_ | refine gw_u ?_ | refine gw_tn (fun _ => ?_) (fun _ => ?_) | refine gw_fn (fun _ => ?_) (fun _ => ?_) | refine gw_tb (fun _ => ?_) (fun _ => ?_) | refine gw_fb (fun _ => ?_) (fun _ => ?_))
    | (show dr ..; first | refine dr_nil ?_ | refine dr_n rfl ?_ | refine dr_w' rfl rfl ?_)
    | (show drGo ..; first | refine dr_ev rfl ?_ | refine dr_call rfl ?_)
    | (show drOn ..; first | refine dn_nop ?_ | refine dn_new ?_ | refine dn_put ?_ | refine dn_born ?_ | refine dn_grow ?_)
    | (show dputGo ..; refine dput_box ?_)
    | (show dcallGo ..; (refine dcall_pure (r := ?_) ?_ ?_; rotate_left 1; (focus first | exact r01_raise _)))
    | (refine And.intro (by kernel_rfl : okAll _ = true) ?_)
    | (show pwCode ..; first | refine pc_seq ?_ | refine pc_region ?_ | refine pc_draw (by kernel_rfl) ?_ | refine pc_ret ?_ | refine pc_skip ?_ | refine pc_block ?_ | refine pc_exit ?_ | refine pc_cond ?_)
    | (show condGo ..; first | refine cd_t ?_ | refine cd_f ?_ | refine cd_n (fun _ => ?_) (fun _ => ?_) | refine cd_b (fun _ => ?_) (fun _ => ?_))
    | refine th_normal ?_
    | refine th_ret ?_
    | refine th_exit ?_
    | refine th_pan ?_
    | refine bl_normal ?_
    | refine bl_exit ?_
    | refine bl_pass rfl ?_
    | refine bl_ret ?_
    | refine bl_pan ?_
    | (show retQ ..; first | refine rt_ret ?_ | refine rt_normal ?_)
    | refine rs_some ?_)
      · refine again (n + 1, [] ++ [upPr x], 0) ⟨hlt, by rw [hy, hs]⟩ (by simp only; omega) ?_
        simp only [accV_snoc, accG_snoc, accM_snoc]
        (refine keepI ?_ ?_ <;> repeat' (first | exact ke_nil | exact kg_nil | refine ke_cons (by (try simp only [go_sem, *]); try rfl) (by simp only [go_sem, *]) ?_ | refine kg_box (by (try simp only [go_sem, *]); try rfl) (by omega) (by simp only [go_sem, *]) ?_ | refine kg_row (by (try simp only [go_sem, *]); try rfl) (by omega) (by simp only [go_sem, *]) ?_))
    · simp only [accV_ne hne, accG_ne hne, accM_ne hne]
      repeat' (first
    | (show pwOps ..; first | refine pops_nil ?_ | refine pops_n rfl ?_ | refine pops_w' rfl rfl ?_)
    | (show runGo ..; first | refine run_ev rfl rfl ?_ | refine run_call rfl ?_)
    | (show goOn ..; first | refine on_nop ?_ | refine on_new ?_ | refine on_put ?_ | refine on_born ?_ | refine on_grow ?_)
    | (show putGo ..; refine put_box ?_)
    | (show callGo ..; (refine call_pure (r := ?_) ?_ ?_; rotate_left 1; (focus first | exact r01_raise _)))
    | (show wGo ..; first | refine gw_tt ?_ | refine gw_ff ?_ | refine gw_tf ?_ | refine gw_ft ?_ | refine gw_u ?_ | refine gw_tn (fun _ => ?_) (fun _ => ?_) | refine gw_fn (fun _ => ?_) (fun _ => ?_) | refine gw_tb (fun _ => ?_) (fun _ => ?_) | refine gw_fb (fun _ => ?_) (fun _ => ?_))
    | (show dr ..; first | refine dr_nil ?_ | refine dr_n rfl ?_ | refine dr_w' rfl rfl ?_)
    | (show drGo ..; first | refine dr_ev rfl ?_ | refine dr_call rfl ?_)
    | (show drOn ..; first | refine dn_nop ?_ | refine dn_new ?_ | refine dn_put ?_ | refine dn_born ?_ | refine dn_grow ?_)
    | (show dputGo ..; refine dput_box ?_)
    | (show dcallGo ..; (refine dcall_pure (r := ?_) ?_ ?_; rotate_left 1; (focus first | exact r01_raise _)))
    | (refine And.intro (by kernel_rfl : okAll _ = true) ?_)
    | (show pwCode ..; first | refine pc_seq ?_ | refine pc_region ?_ | refine pc_draw (by kernel_rfl) ?_ | refine pc_ret ?_ | refine pc_skip ?_ | refine pc_block ?_ | refine pc_exit ?_ | refine pc_cond ?_)
    | (show condGo ..; first | refine cd_t ?_ | refine cd_f ?_ | refine cd_n (fun _ => ?_) (fun _ => ?_) | refine cd_b (fun _ => ?_) (fun _ => ?_))
    | refine th_normal ?_
    | refine th_ret ?_
    | refine th_exit ?_
    | refine th_pan ?_
    | refine bl_normal ?_
    | refine bl_exit ?_
    | refine bl_pass rfl ?_
    | refine bl_ret ?_
    | refine bl_pan ?_
    | (show retQ ..; first | refine rt_ret ?_ | refine rt_normal ?_)
    | refine rs_some ?_)
      · refine again (n + 1, acc ++ [upPr x], id) ⟨hlt, by rw [hy, hs]⟩ (by simp only; omega) ?_
        simp only [accV_snoc, accG_snoc, accM_snoc]
        (refine keepI ?_ ?_ <;> repeat' (first | exact ke_nil | exact kg_nil | refine ke_cons (by (try simp only [go_sem, *]); try rfl) (by simp only [go_sem, *]) ?_ | refine kg_box (by (try simp only [go_sem, *]); try rfl) (by omega) (by simp only [go_sem, *]) ?_ | refine kg_row (by (try simp only [go_sem, *]); try rfl) (by omega) (by simp only [go_sem, *]) ?_))
  · have h0 := lt_false hge
    have hs' : l.map upPr = acc := by rw [← hs, List.take_of_length_le hge]
    rcases or_nil acc with hnil | hne
    · subst hnil
      simp only [accV_nil, accG_nil, accM_nil]
      repeat' (first
    | (show pwOps ..; first | refine pops_nil ?_ | refine pops_n rfl ?_ | refine pops_w' rfl rfl ?_)
    | (show runGo ..; first | refine run_ev rfl rfl ?_ | refine run_call rfl ?_)
    | (show goOn ..; first | refine on_nop ?_ | refine on_new ?_ | refine on_put ?_ | refine on_born ?_ | refine on_grow ?_)
    | (show putGo ..; refine put_box ?_)
    | (show wGo ..; first | refine gw_tt ?_ | refine gw_ff ?_ | refine gw_tf ?_ | refine gw_ft ?_ | refine gw_u ?_ | refine gw_tn (fun _ => ?_) (fun _ => ?_) | refine gw_fn (fun _ => ?_) (fun _ => ?_) | refine gw_tb (fun _ => ?_) (fun _ => ?_) | refine gw_fb (fun _ => ?_) (fun _ => ?_))
    | (show dr ..; first | refine dr_nil ?_ | refine dr_n rfl ?_ | refine dr_w' rfl rfl ?_)
    | (show drGo ..; first | refine dr_ev rfl ?_ | refine dr_call rfl ?_)
    | (show drOn ..; first | refine dn_nop ?_ | refine dn_new ?_ | refine dn_put ?_ | refine dn_born ?_ | refine dn_grow ?_)
    | (show dputGo ..; refine dput_box ?_)
    | (refine And.intro (by kernel_rfl : okAll _ = true) ?_)
    | (show pwCode ..; first | refine pc_seq ?_ | refine pc_region ?_ | refine pc_draw (by kernel_rfl) ?_ | refine pc_ret ?_ | refine pc_skip ?_ | refine pc_block ?_ | refine pc_exit ?_ | refine pc_cond ?_)
    | (show condGo ..; first | refine cd_t ?_ | refine cd_f ?_ | refine cd_n (fun _ => ?_) (fun _ => ?_) | refine cd_b (fun _ => ?_) (fun _ => ?_))
    | refine th_normal ?_
    | refine th_ret ?_
    | refine th_exit ?_
    | refine th_pan ?_
    | refine bl_normal ?_
    | refine bl_exit ?_
    | refine bl_pass rfl ?_
    | refine bl_ret ?_
    | refine bl_pan ?_
    | (show retQ ..; first | refine rt_ret ?_ | refine rt_normal ?_)
    | refine rs_some ?_)
      rw [hs']; rfl
    · simp only [accV_ne hne, accG_ne hne, accM_ne hne]
      repeat' (first
    | (show pwOps ..; first | refine pops_nil ?_ | refine pops_n rfl ?_ | refine pops_w' rfl rfl ?_)
    | (show runGo ..; first | refine run_ev rfl rfl ?_ | refine run_call rfl ?_)
    | (show goOn ..; first | refine on_nop ?_ | refine on_new ?_ | refine on_put ?_ | refine on_born ?_ | refine on_grow ?_)
    | (show putGo ..; refine put_box ?_)
    | (show wGo ..; first | refine gw_tt ?_ | refine gw_ff ?_ | refine gw_tf ?_ | refine gw_ft ?_ | refine gw_u ?_ | refine gw_tn (fun _ => ?_) (fun _ => ?_) | refine gw_fn (fun _ => ?_) (fun _ => ?_) | refine gw_tb (fun _ => ?_) (fun _ => ?_) | refine gw_fb (fun _ => ?_) (fun _ => ?_))
    | (show dr ..; first | refine dr_nil ?_ | refine dr_n rfl ?_ | refine dr_w' rfl rfl ?_)
    | (show drGo ..; first | refine dr_ev rfl ?_ | refine dr_call rfl ?_)
    | (show drOn ..; first | refine dn_nop ?_ | refine dn_new ?_ | refine dn_put ?_ | refine dn_born ?_ | refine dn_grow ?_)
    | (show dputGo ..; refine dput_box ?_)
    | (refine And.intro (by kernel_rfl : okAll _ = true) ?_)
    | (show pwCode ..; first | refine pc_seq ?_ | refine pc_region ?_ | refine pc_draw (by kernel_rfl) ?_ | refine pc_ret ?_ | refine pc_skip ?_ | refine pc_block ?_ | refine pc_exit ?_ | refine pc_cond ?_)
    | (show condGo ..; first | refine cd_t ?_ | refine cd_f ?_ | refine cd_n (fun _ => ?_) (fun _ => ?_) | refine cd_b (fun _ => ?_) (fun _ => ?_))
    | refine th_normal ?_
    | refine th_ret ?_
    | refine th_exit ?_
    | refine th_pan ?_
    | refine bl_normal ?_
    | refine bl_exit ?_
    | refine bl_pass rfl ?_
    | refine bl_ret ?_
    | refine bl_pan ?_
    | (show retQ ..; first | refine rt_ret ?_ | refine rt_normal ?_)
    | refine rs_some ?_)
      rw [hs']
def shownR (o : Ob) : List Pr := if (o.kind == 4) = true then o.label.map upPr else o.label
theorem r13_shown (o : Ob) (hl : o.label.length ≤ 900000) : Pure Try.prog 129 [.agg (Ob.enc o)] (.sl ((shownR o).map Pr.enc)) := by
  refine pureI (by kernel_rfl) (by simp only [go_sem, *]) (by simp only [go_sem, *]) Try.func129 Try.results129 rfl (by simp [Try.ntmps129]) (by kernel_rfl) ?_
  repeat' (first
    | (show pwOps ..; first | refine pops_nil ?_ | refine pops_n rfl ?_ | refine pops_w' rfl rfl ?_)
    | (show runGo ..; first | refine run_ev rfl rfl ?_ | refine run_call rfl ?_)
    | (show goOn ..; first | refine on_nop ?_ | refine on_new ?_ | refine on_put ?_ | refine on_born ?_ | refine on_grow ?_)
    | (show putGo ..; refine put_box ?_)
    | (show callGo ..; (refine call_pure (r := ?_) ?_ ?_; rotate_left 1; (focus first | exact r2_raise _ hl)))
    | (show wGo ..; first | refine gw_tt ?_ | refine gw_ff ?_ | refine gw_tf ?_ | refine gw_ft ?_ | refine gw_u ?_ | refine gw_tn (fun _ => ?_) (fun _ => ?_) | refine gw_fn (fun _ => ?_) (fun _ => ?_) | refine gw_tb (fun _ => ?_) (fun _ => ?_) | refine gw_fb (fun _ => ?_) (fun _ => ?_))
    | (show dr ..; first | refine dr_nil ?_ | refine dr_n rfl ?_ | refine dr_w' rfl rfl ?_)
    | (show drGo ..; first | refine dr_ev rfl ?_ | refine dr_call rfl ?_)
    | (show drOn ..; first | refine dn_nop ?_ | refine dn_new ?_ | refine dn_put ?_ | refine dn_born ?_ | refine dn_grow ?_)
    | (show dputGo ..; refine dput_box ?_)
    | (show dcallGo ..; (refine dcall_pure (r := ?_) ?_ ?_; rotate_left 1; (focus first | exact r2_raise _ hl)))
    | (refine And.intro (by kernel_rfl : okAll _ = true) ?_)
    | (show pwCode ..; first | refine pc_seq ?_ | refine pc_region ?_ | refine pc_draw (by kernel_rfl) ?_ | refine pc_ret ?_ | refine pc_skip ?_ | refine pc_block ?_ | refine pc_exit ?_ | refine pc_cond ?_)
    | (show condGo ..; first | refine cd_t ?_ | refine cd_f ?_ | refine cd_n (fun _ => ?_) (fun _ => ?_) | refine cd_b (fun _ => ?_) (fun _ => ?_))
    | refine th_normal ?_
    | refine th_ret ?_
    | refine th_exit ?_
    | refine th_pan ?_
    | refine bl_normal ?_
    | refine bl_exit ?_
    | refine bl_pass rfl ?_
    | refine bl_ret ?_
    | refine bl_pan ?_
    | (show retQ ..; first | refine rt_ret ?_ | refine rt_normal ?_)
    | refine rs_some ?_)
  all_goals (unfold shownR; simp only [*, if_true, if_false, Bool.false_eq_true]; try rfl)
end Go.Proofs.Ytggkjfllbfcagaa
end

section
namespace Go.Proofs.Ytggkjfllbfcagaa
open Go Go.RowKit
set_option linter.unusedVariables false
set_option linter.unusedSimpArgs false
/-! Plain laws: what the program tells of objects is what the document tells. -/
theorem labAt_get {l : List Pr} (h : labFit l = true) {k : Nat} {x : Pr} (hx : l[k]? = some x) : 0 ≤ x.lev ∧ x.lev ≤ 5 ∧ x.lev ≠ 2 ∧ ∀ j, k = j + 1 → ∀ y, l[j]? = some y → y.cat < x.cat := by
  have := allB_iff.1 h k (len_lt hx)
  unfold labFitAt at this
  rw [hx] at this
  simp only [Bool.and_eq_true, levFit, decide_eq_true_eq, Bool.not_eq_true', beq_eq_false_iff_ne, ne_eq] at this
  obtain ⟨⟨⟨h1, h2⟩, h3⟩, h4⟩ := this
  refine ⟨h1, h2, h3, ?_⟩
  rintro j rfl y hy
  simp only [hy, Bool.not_eq_true', decide_eq_false_iff_not] at h4
  omega
theorem fit_of {l : List Pr} (h : labFit l = true) : FitL (labOf l) := by
  have adj : ∀ (k : Nat) (x y : Pr), l[k]? = some y → l[k + 1]? = some x → y.cat < x.cat := fun k x y hy hx => (labAt_get h hx).2.2.2 k rfl y hy
  have far : ∀ (d i : Nat) (x y : Pr), l[i]? = some x → l[i + d + 1]? = some y → x.cat < y.cat := by
    intro d
    induction d with
    | zero => intro i x y hx hy; exact adj i y x hx hy
    | succ d ih =>
      intro i x y hx hy
      obtain ⟨z, hz⟩ := lt_len (by have := len_lt hy; omega : i + d + 1 < l.length)
      have h1 := ih i x z hx hz
      have h2 := adj (i + d + 1) y z hz (by rw [show i + d + 1 + 1 = i + (d + 1) + 1 by omega]; exact hy)
      omega
  refine ⟨sorted_iff.1 ?_, ?_⟩
  · intro i j hi hj hij
    simp only [labOf, List.getElem_map]
    have hi' : i < l.length := by simpa [labOf] using hi
    have hj' : j < l.length := by simpa [labOf] using hj
    exact far (j - i - 1) i _ _ (List.getElem?_eq_getElem hi') (by rw [show i + (j - i - 1) + 1 = j by omega]; exact List.getElem?_eq_getElem hj')
  · intro p hp
    obtain ⟨x, hx, rfl⟩ := List.mem_map.1 hp
    obtain ⟨k, hk⟩ := List.getElem?_of_mem hx
    obtain ⟨h1, h2, h3, _⟩ := labAt_get h hk
    exact ⟨h1, h2, h3⟩
theorem get_of (l : List Pr) (c : Int) : getL (labOf l) c = labGet l c := by
  unfold getL labGet labOf
  rw [List.find?_map]
  have : ((fun p : Int × Int => p.1 == c) ∘ fun p : Pr => (p.cat, p.lev)) = fun p : Pr => p.cat == c := rfl
  rw [this]
  cases l.find? (fun p => p.cat == c) <;> rfl
theorem levOf_fit {n : Int} (h : 0 ≤ n ∧ n ≤ 5) : levOf n = n := by
  unfold levOf levFit; rw [if_pos]; simp only [Bool.and_eq_true, decide_eq_true_eq]; omega
theorem levLeq_iff {x y : Int} (hx : 0 ≤ x ∧ x ≤ 5) (hy : 0 ≤ y ∧ y ≤ 5) : levLeq x y = true ↔ x ≤ y := by
  unfold levLeq; rw [levOf_fit hx, levOf_fit hy, decide_eq_true_eq]
theorem leq_eq {a b : List Pr} (ha : labFit a = true) (hb : labFit b = true) : labLeq a b = leqR a b := by
  have fa := fit_of ha
  have fb := fit_of hb
  have ra := getL_range fa
  have rb := getL_range fb
  have ga : ∀ {k : Nat} {x : Pr}, a[k]? = some x → getL (labOf a) x.cat = x.lev := fun hx => getL_mem fa.sorted (p := (_, _)) (List.mem_map.2 ⟨_, List.mem_of_getElem? hx, rfl⟩)
  have gb : ∀ {k : Nat} {x : Pr}, b[k]? = some x → getL (labOf b) x.cat = x.lev := fun hx => getL_mem fb.sorted (p := (_, _)) (List.mem_map.2 ⟨_, List.mem_of_getElem? hx, rfl⟩)
  rw [Bool.eq_iff_iff]
  unfold labLeq leqR
  rw [leqB_iff fa fb, Bool.and_eq_true, allB_iff, allB_iff]
  constructor
  · intro h
    refine ⟨fun j hj => ?_, fun j hj => ?_⟩
    · obtain ⟨x, hx⟩ := lt_len hj
      obtain ⟨h1, h2, _⟩ := labAt_get ha hx
      unfold leqAt; rw [hx]; simp only
      rw [← get_of, levLeq_iff ⟨h1, h2⟩ (rb _), ← ga hx]
      exact h x.cat
    · obtain ⟨x, hx⟩ := lt_len hj
      obtain ⟨h1, h2, _⟩ := labAt_get hb hx
      unfold geqAt; rw [hx]; simp only
      rw [← get_of, levLeq_iff (ra _) ⟨h1, h2⟩, ← gb hx]
      exact h x.cat
  · rintro ⟨h1, h2⟩ c
    rcases getL_or fa.sorted c with ⟨p, hp, rfl, he⟩ | ⟨_, he⟩
    · obtain ⟨x, hx, rfl⟩ := List.mem_map.1 hp
      obtain ⟨k, hk⟩ := List.getElem?_of_mem hx
      have := h1 k (len_lt hk)
      obtain ⟨g1, g2, _⟩ := labAt_get ha hk
      unfold leqAt at this; rw [hk] at this; simp only at this
      rw [← get_of, levLeq_iff ⟨g1, g2⟩ (rb _)] at this
      rw [he]; exact this
    · rcases getL_or fb.sorted c with ⟨q, hq, rfl, he2⟩ | ⟨_, he2⟩
      · obtain ⟨x, hx, rfl⟩ := List.mem_map.1 hq
        obtain ⟨k, hk⟩ := List.getElem?_of_mem hx
        have := h2 k (len_lt hk)
        obtain ⟨g1, g2, _⟩ := labAt_get hb hk
        unfold geqAt at this; rw [hk] at this; simp only at this
        rw [← get_of, levLeq_iff (ra _) ⟨g1, g2⟩] at this
        rw [he2]; exact this
      · rw [he, he2]; exact Int.le_refl _
theorem merge_nil (l : Lab) : mergeB l [] = l.map (fun p => (p.1, (p.2, 2))) := by
  induction l with
  | nil => rw [mergeB]; rfl
  | cons p t ih => rw [mergeB, ih]; rfl
theorem ofL_levOf (n : Int) : ofL n = levOf n := by
  unfold ofL levOf levFit
  by_cases h : 0 ≤ n ∧ n ≤ 5
  · rw [if_pos h, if_pos (by simp only [Bool.and_eq_true, decide_eq_true_eq]; omega)]
  · rw [if_neg h, if_neg (by simp only [Bool.and_eq_true, decide_eq_true_eq]; omega)]
theorem raL_levUp (n : Int) : raL n = levUp n := by
  unfold raL levUp
  rw [ofL_levOf]
  by_cases h : levOf n = 0
  · rw [if_pos h, if_pos (by rw [h]; rfl)]
  · rw [if_neg h, if_neg (by simpa using h)]
theorem fm_map {α β : Type} (f : α → Option β) (g : α → β) : ∀ (l : List α), (∀ x ∈ l, f x = some (g x)) → l.filterMap f = l.map g
  | [], _ => rfl
  | x :: l, h => by
    rw [List.filterMap_cons, h x (by simp), List.map_cons, fm_map f g l (fun y hy => h y (by simp [hy]))]
theorem raise_eq {l : List Pr} (h : labFit l = true) : labRaise l = l.map upPr := by
  unfold labRaise foldB
  rw [merge_nil]
  unfold foldX labOf
  rw [List.map_map, List.filterMap_map, List.map_filterMap]
  refine fm_map _ _ l (fun x hx => ?_)
  obtain ⟨k, hk⟩ := List.getElem?_of_mem hx
  obtain ⟨h1, h2, h3, _⟩ := labAt_get h hk
  have : raL x.lev ≠ 2 := by unfold raL; rw [ofL_of ⟨h1, h2⟩]; split <;> omega
  have h5 : levUp x.lev ≠ 2 := by rw [← raL_levUp]; exact this
  simp [Function.comp, ofPair, upPr, raL_levUp, h5]
theorem levUp_ne (n : Int) : levUp n ≠ 0 := by
  unfold levUp
  split
  · decide
  · rename_i h; simpa using h
theorem good_one (m : Mp) : good m = mapOne m := by
  unfold good mapOne within
  simp only [IntKind.wrap_i64]
  rw [Bool.eq_iff_iff]; simp only [Bool.and_eq_true, decide_eq_true_eq]; omega
theorem pgFit_eq (l : List Mp) : pgFit l = mapFit l := by
  unfold pgFit mapFit
  rw [Bool.and_comm]
  have : pgAt l = mapAt l := by
    funext k; unfold pgAt mapAt; cases l[k]? with
    | none => rfl
    | some x => simp only [good_one]; cases k <;> rfl
  rw [this]
theorem up_any {α : Type} (of : α → Int) (ok : α → Bool) (l : List α) (at_ : Nat → Bool) (h : ∀ k x, l[k]? = some x → at_ k = (ok x && match k with | 0 => true | j + 1 => match l[j]? with | some y => !decide (of y ≥ of x) | none => true)) :
    (allB (l.length - 1) (upAt of l) && !l.any (fun x => !ok x)) = allB l.length at_ := by
  rw [Bool.eq_iff_iff, Bool.and_eq_true, allB_iff, allB_iff, Bool.not_eq_true', List.any_eq_false]
  constructor
  · rintro ⟨h1, h2⟩ k hk
    obtain ⟨x, hx⟩ := lt_len hk
    rw [h k x hx]
    have hok : ok x = true := by simpa using h2 x (List.mem_of_getElem? hx)
    rw [hok]
    cases k with
    | zero => rfl
    | succ j =>
      obtain ⟨y, hy⟩ := lt_len (by omega : j < l.length)
      have := h1 j (by omega)
      unfold upAt at this; rw [hy] at this; simp only [hx] at this
      simp only [hy, Bool.true_and]; exact this
  · intro hh
    refine ⟨fun j hj => ?_, fun x hx => ?_⟩
    · obtain ⟨y, hy⟩ := lt_len (by omega : j < l.length)
      obtain ⟨x, hx⟩ := lt_len (by omega : j + 1 < l.length)
      have := hh (j + 1) (by omega)
      rw [h _ x hx] at this; simp only [hy, Bool.and_eq_true] at this
      unfold upAt; rw [hy]; simp only [hx]; exact this.2
    · obtain ⟨k, hk⟩ := List.getElem?_of_mem hx
      have := hh k (len_lt hk)
      rw [h k x hk, Bool.and_eq_true] at this; simp [this.1]
theorem kept_fit {l : List Pr} (h : kept l = true) : labFit l = true := by
  unfold kept at h; simp only [Bool.and_eq_true] at h; exact h.2.2
theorem th_eq (o : Ob) (hl : kept o.label = true) : thFitO o = (thFit o.label o.thread && !o.fixed) := by
  unfold thFitO thFit
  cases hc : kept o.thread.clear with
  | false => simp
  | true =>
    rw [leq_eq (kept_fit hl) (kept_fit hc)]
    have hst : (o.thread.state == 0 || (o.thread.state == 1 || o.thread.state == 2)) = (decide (o.thread.state ≥ 0) && decide (o.thread.state ≤ 2)) := by
      rw [Bool.eq_iff_iff]; simp only [Bool.or_eq_true, Bool.and_eq_true, decide_eq_true_eq, beq_iff_eq]; omega
    rw [hst]
    generalize allB 4 (labsKept o.thread) = a1
    generalize (o.thread.state == 1) = a2
    generalize decide (o.thread.wait = Wt.zero) = a3
    generalize decide (o.thread.state ≥ 0) = a4
    generalize decide (o.thread.state ≤ 2) = a5
    generalize leqR o.label o.thread.clear = a6
    generalize decide ((o.thread.alerts.length : Int) ≤ 8) = a7
    generalize spanFit o.thread.span = a8
    generalize o.fixed = a9
    revert a1 a2 a3 a4 a5 a6 a7 a8 a9; decide
theorem inner_eq (o : Ob) (hl : kept o.label = true) : innerO o = inner o := by
  unfold innerO inner
  split
  · rw [Int.mul_comm]
  · split
    · congr 1
      refine up_any (fun x => x) idOk o.links (risAt o.links) (fun k x hx => ?_)
      unfold risAt; rw [hx]
      cases k with
      | zero => rfl
      | succ j => cases hq : o.links[j]? <;> simp only [hq]
    · split
      · exact pgFit_eq _
      · split
        · exact th_eq o hl
        · split
          · cases h1 : kept o.gate.grant with
            | false => rfl
            | true =>
              cases h2 : kept o.gate.clear with
              | false => rfl
              | true => rw [leq_eq (kept_fit h1) (kept_fit h2)]
          · rfl
theorem bc (a b : Int) : (a == b) = (b == a) := by rw [Bool.eq_iff_iff]; simp only [beq_iff_eq]; exact eq_comm
theorem dcm {α : Type} [DecidableEq α] (a b : α) : decide (a = b) = decide (b = a) := decide_eq_decide.2 eq_comm
theorem labsEq_symm (a b : Th) : labsEq a b = labsEq b a := by funext i; exact dcm _ _
theorem regsEq_symm (f g : Nat → Int) : regsEq f g = regsEq g f := by unfold regsEq; congr 1; funext i; exact bc _ _
theorem sameTh_symm (a b : Th) : sameTh a b = sameTh b a := by
  unfold sameTh
  rw [labsEq_symm a b, regsEq_symm a.regs, bc a.pc, dcm a.clear, dcm a.space, bc a.handler, bc a.vector, bc a.state, dcm a.wait, dcm a.alerts, dcm a.span]
theorem sameGt_symm (a b : Gt) : sameGt a b = sameGt b a := by
  unfold sameGt
  rw [dcm a.grant, dcm a.clear, dcm a.space, bc a.pc, bc a.arg]
theorem labsEq_refl (a : Th) : allB 4 (labsEq a a) = true := allB_true fun j _ => decide_eq_true rfl
theorem regsEq_refl (f : Nat → Int) : regsEq f f = true := by unfold regsEq; simp
theorem sameTh_refl (a : Th) : sameTh a a = true := by unfold sameTh; simp [labsEq_refl, regsEq_refl]
theorem sameGt_refl (a : Gt) : sameGt a a = true := by unfold sameGt; simp
theorem sameOb_refl (a : Ob) : sameOb a a = true := by unfold sameOb; simp [sameTh_refl, sameGt_refl]
theorem nilI (l : List Int) : decide ([] = l) = decide (l = []) := dcm _ _
theorem nilM (l : List Mp) : decide ([] = l) = decide (l = []) := dcm _ _
theorem zTh (t : Th) : sameTh Th.zero t = sameTh t Th.zero := sameTh_symm _ _
theorem zGt (t : Gt) : sameGt Gt.zero t = sameGt t Gt.zero := sameGt_symm _ _
theorem alone_eq (o : Ob) (hk : 1 ≤ o.kind ∧ o.kind ≤ 6) : sameOb (bareOf o) (headOf o) = sameOb (aloneOf o) o := by
  have h : o.kind = 1 ∨ o.kind = 2 ∨ o.kind = 3 ∨ o.kind = 4 ∨ o.kind = 5 ∨ o.kind = 6 := by omega
  unfold bareOf aloneOf
  rcases h with h | h | h | h | h | h <;> rw [h] <;> simp only [Int.reduceBEq, if_true, if_false, Bool.false_eq_true, beq_self_eq_true, sameOb, headOf, Ob.zero, decide_true, Bool.true_and, Bool.and_true, sameTh_refl, sameGt_refl, nilI, nilM, zTh, zGt, h]
theorem sound_eq (o : Ob) : soundO o = sound o := by
  unfold soundO sound soundHead
  by_cases hk : 1 ≤ o.kind ∧ o.kind ≤ 6
  · cases hl : kept o.label with
    | false => simp
    | true =>
      rw [alone_eq o hk, inner_eq o hl]
      generalize idOk o.id = a1
      generalize decide (o.kind < 1) = a2
      generalize decide (o.kind > 6) = a3
      generalize decide (o.quota < 1) = a4
      generalize decide (o.quota > 4096) = a5
      generalize sameOb (aloneOf o) o = a6
      generalize (o.kind == 4) = a7
      generalize decide (((own o.label).length : Int) > 0) = a8
      generalize inner o = a9
      revert a1 a2 a3 a4 a5 a6 a7 a8 a9; decide
  · have : decide (o.kind < 1) = true ∨ decide (o.kind > 6) = true := by
      rcases Classical.em (o.kind < 1) with h | h
      · exact .inl (decide_eq_true h)
      · exact .inr (decide_eq_true (by omega))
    rcases this with h | h <;> simp [h]
theorem fit_eq (w : Wd) : fitO w = wdFit w := by
  unfold fitO wdFit
  have e1 : (fun o => !soundO o) = fun o => !sound o := by funext o; rw [sound_eq]
  rw [e1, up_any Ob.id sound w.objects (obAt w.objects) (fun k x hx => by
    unfold obAt; rw [hx]
    cases k with
    | zero => rfl
    | succ j => cases hq : w.objects[j]? <;> simp only [hq])]
  have a1 : decide (w.time ≥ 0) = !decide (w.time < 0) := by rw [Bool.eq_iff_iff]; simp
  have a2 : decide (w.time ≤ 1099511627776) = !decide (w.time > 1099511627776) := by rw [Bool.eq_iff_iff]; simp
  have a3 : decide ((w.objects.length : Int) ≤ 1024) = !decide ((w.objects.length : Int) > 1024) := by rw [Bool.eq_iff_iff]; simp
  rw [a1, a2, a3]
  simp only [Bool.and_assoc]
theorem eqObs_refl (l : List Ob) : eqObs l l = true := by
  unfold eqObs
  rw [decide_eq_true rfl, Bool.true_and]
  refine allB_true fun j hj => ?_
  obtain ⟨x, hx⟩ := lt_len hj
  unfold eqAt; rw [hx]; exact sameOb_refl x
theorem sameWd_refl (w : Wd) : sameWd w w = true := by unfold sameWd; simp [eqObs_refl]
theorem pages_eq (o : Ob) (h : o.data.length ≤ 1000000) : pagesO o = pagesR o := by
  unfold pagesO pagesR
  generalize o.data.length = n at h
  have e1 : (n : Int).tmod 16 = (n : Int) % 16 := Int.tmod_eq_emod_of_nonneg (Int.natCast_nonneg n)
  have e2 : (n : Int).tdiv 16 = (n : Int) / 16 := Int.tdiv_eq_ediv_of_nonneg (Int.natCast_nonneg n)
  have e3 : IntKind.i64.wrap (IntKind.i64.wrap ((n : Int) + 16) - 1) = (n : Int) + 15 := by rw [IntKind.wrap_i64, IntKind.wrap_i64]; omega
  have e4 : ((n : Int) + 15).tdiv 16 = ((n : Int) + 15) / 16 := Int.tdiv_eq_ediv_of_nonneg (by omega)
  have w : ∀ x : Int, 0 ≤ x → x ≤ 2000000 → IntKind.i64.wrap x = x := fun x h1 h2 => by rw [IntKind.wrap_i64]; omega
  rw [e1, e2, e3, e4, w ((n : Int) / 16) (by omega) (by omega), w (((n : Int) + 15) / 16) (by omega) (by omega), w ((n : Int) / 16 + 1) (by omega) (by omega), w (1 + ((n : Int) + 15) / 16) (by omega) (by omega)]
  by_cases hc : (n : Int) % 16 > 0
  · rw [if_pos (decide_eq_true hc), w _ (by omega) (by omega)]; omega
  · rw [if_neg (by simpa using hc)]; omega
theorem sound_data {o : Ob} (h : sound o = true) : 1 ≤ o.quota ∧ o.quota ≤ 4096 ∧ (o.data.length : Int) ≤ 16 * (o.quota - 1) := by
  unfold sound soundHead at h
  simp only [Bool.and_eq_true, Bool.not_eq_true', decide_eq_false_iff_not] at h
  obtain ⟨⟨_, hk1, hk2, _, hq1, hq2, ha⟩, _, hi⟩ := h
  refine ⟨by omega, by omega, ?_⟩
  by_cases h1 : o.kind = 1
  · unfold inner at hi
    rw [h1] at hi
    simp only [beq_self_eq_true, if_true, decide_eq_true_eq, IntKind.wrap_i64] at hi
    omega
  · have hd : o.data = [] := by
      unfold sameOb at ha
      simp only [Bool.and_eq_true] at ha
      have h2 := ha.2.2.1
      have e : (aloneOf o).data = [] := by
        unfold aloneOf
        rw [if_neg (by simpa using h1)]
        split <;> (try split) <;> (try split) <;> (try split) <;> (try split) <;> rfl
      rw [e] at h2
      exact (of_decide_eq_true h2).symm
    rw [hd]; simp; omega
theorem pages_quota {o : Ob} (h : sound o = true) : pagesR o ≤ o.quota := by
  obtain ⟨h1, h2, h3⟩ := sound_data h
  unfold pagesR
  generalize o.data.length = n at h3
  have e3 : IntKind.i64.wrap (IntKind.i64.wrap ((n : Int) + 16) - 1) = (n : Int) + 15 := by rw [IntKind.wrap_i64, IntKind.wrap_i64]; omega
  have e4 : ((n : Int) + 15).tdiv 16 = ((n : Int) + 15) / 16 := Int.tdiv_eq_ediv_of_nonneg (by omega)
  have w : ∀ x : Int, 0 ≤ x → x ≤ 2000000 → IntKind.i64.wrap x = x := fun x h1 h2 => by rw [IntKind.wrap_i64]; omega
  rw [e3, e4, w (((n : Int) + 15) / 16) (by omega) (by omega), w _ (by omega) (by omega)]
  omega
theorem sound_kept {o : Ob} (h : sound o = true) : kept o.label = true := by
  unfold sound soundHead at h
  simp only [Bool.and_eq_true] at h
  exact h.1.2.2.2.1
theorem shown_eq {o : Ob} (h : sound o = true) : shownOf o = shownR o := by
  unfold shownOf shownR
  rw [raise_eq (kept_fit (sound_kept h))]
theorem shown_star {o : Ob} (h : sound o = true) : ∀ x ∈ shownR o, (x.lev == 0) = false := by
  intro x hx
  unfold shownR at hx
  split at hx
  · obtain ⟨y, _, rfl⟩ := List.mem_map.1 hx
    simpa [upPr] using levUp_ne y.lev
  · rename_i hk
    unfold sound at h
    rw [Bool.and_eq_true, Bool.and_eq_true, Bool.or_eq_true] at h
    have h0 : own o.label = [] := by
      rcases h.2.1 with h1 | h1
      · exact absurd h1 hk
      · refine List.eq_nil_of_length_eq_zero ?_
        have : decide (((own o.label).length : Int) > 0) = false := by simpa using h1
        have := of_decide_eq_false this
        omega
    unfold own at h0
    rw [List.map_eq_nil_iff, List.filter_eq_nil_iff] at h0
    have := h0 x hx
    simpa using this
theorem shown_len {o : Ob} : (shownR o).length = o.label.length := by unfold shownR; split <;> simp
end Go.Proofs.Ytggkjfllbfcagaa
end

section
namespace Go.Proofs.Ytggkjfllbfcagaa
open Go Go.RowKit
set_option linter.unusedVariables false
set_option linter.unusedSimpArgs false
set_option maxHeartbeats 16000000
set_option maxRecDepth 100000
def ownL : List Pr := [⟨7, 0⟩]
def data17 : List Int := List.replicate 17 0
@[go_sem high] theorem bs_own : evBuildSlice Try.prog 24 1 [(0, .agg (Pr.enc ⟨7, 0⟩))] = some (.sl (List.map Pr.enc ownL)) := by kernel_rfl
@[go_sem high] theorem mk_17 : evMake Try.prog 25 (.int .i64 17) (.int .i64 17) = some (.sl (List.map u64 data17)) := by kernel_rfl
attribute [local irreducible] pwOps dr pwCode Ex.then Ex.inBlock retQ okAll drawOk Pure CSat evOp calleeP rdOf upd hset strip sp0 cut envL heapL Again Keep BdL evBs AgainK KeepK
/-! Chapter 13's examples; what a container's readers see. -/
def exD : Ob := ⟨1, 6, [], 1, false, [], [], [], Th.zero, Gt.zero, [], []⟩
def exT : Ob := ⟨1, 4, ownL, 1, false, [], [], [], Th.zero, Gt.zero, [], []⟩
def exO : Ob := ⟨1, 6, ownL, 1, false, [], [], [], Th.zero, Gt.zero, [], []⟩
def exP : Ob := ⟨2, 1, [], 3, false, [], data17, [], Th.zero, Gt.zero, [], []⟩
theorem obj_sound' (o : Ob) (ha : o.L) (hl : o.label.length ≤ 900000) : Pure Try.prog 105 [.agg (Ob.enc o)] (.bool (sound o)) := by
  rw [← sound_eq]; exact obj_sound o ha hl
theorem law13_awake : Pure Try.prog 58 [] (.bool true) := by
  refine pureI (by kernel_rfl) (by simp only [go_sem, *]) (by simp only [go_sem, *]) Try.func58 Try.results58 rfl (by simp [Try.ntmps58]) (by kernel_rfl) ?_
  have h1 := obj_sound' exD ⟨by decide, by decide, by decide, by decide, Th.zeroL, Gt.zeroL, by decide, by decide⟩ (by decide)
  rw [show sound exD = true by decide] at h1
  have h2 := obj_sound' exT ⟨by decide, by decide, by decide, by decide, Th.zeroL, Gt.zeroL, by decide, by decide⟩ (by decide)
  rw [show sound exT = true by decide] at h2
  have h3 := obj_sound' exO ⟨by decide, by decide, by decide, by decide, Th.zeroL, Gt.zeroL, by decide, by decide⟩ (by decide)
  rw [show sound exO = false by decide] at h3
  have h4 := obj_pages exP
  rw [show pagesO exP = 3 by decide] at h4
  unfold exD at h1
  unfold exT at h2
  unfold exO at h3
  unfold exP at h4
  repeat' (first
    | (show pwOps ..; first | refine pops_nil ?_ | refine pops_n rfl ?_ | refine pops_w' rfl rfl ?_)
    | (show runGo ..; first | refine run_ev rfl rfl ?_ | refine run_call rfl ?_)
    | (show goOn ..; first | refine on_nop ?_ | refine on_new ?_ | refine on_put ?_ | refine on_born ?_ | refine on_grow ?_)
    | (show putGo ..; refine put_box ?_)
    | (show callGo ..; (refine call_pure (r := ?_) ?_ ?_; rotate_left 1; (focus first | exact h1 | exact h2 | exact h3 | exact h4)))
    | (show wGo ..; first | refine gw_tt ?_ | refine gw_ff ?_ | refine gw_tf ?_ | refine gw_ft ?_ | refine gw_u ?_ | refine gw_tn (fun _ => ?_) (fun _ => ?_) | refine gw_fn (fun _ => ?_) (fun _ => ?_) | refine gw_tb (fun _ => ?_) (fun _ => ?_) | refine gw_fb (fun _ => ?_) (fun _ => ?_))
    | (show dr ..; first | refine dr_nil ?_ | refine dr_n rfl ?_ | refine dr_w' rfl rfl ?_)
    | (show drGo ..; first | refine dr_ev rfl ?_ | refine dr_call rfl ?_)
    | (show drOn ..; first | refine dn_nop ?_ | refine dn_new ?_ | refine dn_put ?_ | refine dn_born ?_ | refine dn_grow ?_)
    | (show dputGo ..; refine dput_box ?_)
    | (show dcallGo ..; (refine dcall_pure (r := ?_) ?_ ?_; rotate_left 1; (focus first | exact h1 | exact h2 | exact h3 | exact h4)))
    | (refine And.intro (by kernel_rfl : okAll _ = true) ?_)
    | (show pwCode ..; first | refine pc_seq ?_ | refine pc_region ?_ | refine pc_draw (by kernel_rfl) ?_ | refine pc_ret ?_ | refine pc_skip ?_ | refine pc_block ?_ | refine pc_exit ?_ | refine pc_cond ?_)
    | (show condGo ..; first | refine cd_t ?_ | refine cd_f ?_ | refine cd_n (fun _ => ?_) (fun _ => ?_) | refine cd_b (fun _ => ?_) (fun _ => ?_))
    | refine th_normal ?_
    | refine th_ret ?_
    | refine th_exit ?_
    | refine th_pan ?_
    | refine bl_normal ?_
    | refine bl_exit ?_
    | refine bl_pass rfl ?_
    | refine bl_ret ?_
    | refine bl_pan ?_
    | (show retQ ..; first | refine rt_ret ?_ | refine rt_normal ?_)
    | refine rs_some ?_)
  all_goals rfl
theorem brief_lens {o : Ob} (h : briefOb o = true) : o.label.length ≤ 20 ∧ o.data.length ≤ 200 := by
  unfold briefOb at h
  simp only [Bool.and_eq_true, decide_eq_true_eq] at h
  omega
@[go_sem] theorem seen_id (o : Ob) : (seenOf o).id = o.id := rfl
@[go_sem] theorem seen_kind (o : Ob) : (seenOf o).kind = o.kind := rfl
@[go_sem] theorem seen_quota (o : Ob) : (seenOf o).quota = o.quota := rfl
@[go_sem] theorem seen_fixed (o : Ob) : (seenOf o).fixed = o.fixed := rfl
@[go_sem] theorem seen_links (o : Ob) : (seenOf o).links = [] := rfl
@[go_sem] theorem seen_data (o : Ob) : (seenOf o).data = [] := rfl
@[go_sem] theorem seen_maps (o : Ob) : (seenOf o).maps = [] := rfl
@[go_sem] theorem seen_inn (o : Ob) : (seenOf o).inn = [] := rfl
@[go_sem] theorem seen_out (o : Ob) : (seenOf o).out = [] := rfl
@[go_sem] theorem seen_thread (o : Ob) : (seenOf o).thread = Th.zero := rfl
@[go_sem] theorem seen_gate (o : Ob) : (seenOf o).gate = Gt.zero := rfl
theorem law13_shows (o : Ob) (hw : o.wf) : Pure Try.prog 12 [.agg (Ob.enc o)] (.bool true) := by
  refine pureI (by kernel_rfl) (by simp only [go_sem, *]) (by simp only [go_sem, *]) Try.func12 Try.results12 rfl (by simp [Try.ntmps12]) (by kernel_rfl) ?_
  have ha := Ob.lens hw
  have hb := law13_brief o
  have hk := law13_awake
  cases hbr : briefOb o with
  | false =>
    rw [hbr] at hb
    repeat' (first
    | (show pwOps ..; first | refine pops_nil ?_ | refine pops_n rfl ?_ | refine pops_w' rfl rfl ?_)
    | (show runGo ..; first | refine run_ev rfl rfl ?_ | refine run_call rfl ?_)
    | (show goOn ..; first | refine on_nop ?_ | refine on_new ?_ | refine on_put ?_ | refine on_born ?_ | refine on_grow ?_)
    | (show putGo ..; refine put_box ?_)
    | (show callGo ..; (refine call_pure (r := ?_) ?_ ?_; rotate_left 1; (focus first | exact hb | exact hk)))
    | (show wGo ..; first | refine gw_tt ?_ | refine gw_ff ?_ | refine gw_tf ?_ | refine gw_ft ?_ | refine gw_u ?_ | refine gw_tn (fun _ => ?_) (fun _ => ?_) | refine gw_fn (fun _ => ?_) (fun _ => ?_) | refine gw_tb (fun _ => ?_) (fun _ => ?_) | refine gw_fb (fun _ => ?_) (fun _ => ?_))
    | (show dr ..; first | refine dr_nil ?_ | refine dr_n rfl ?_ | refine dr_w' rfl rfl ?_)
    | (show drGo ..; first | refine dr_ev rfl ?_ | refine dr_call rfl ?_)
    | (show drOn ..; first | refine dn_nop ?_ | refine dn_new ?_ | refine dn_put ?_ | refine dn_born ?_ | refine dn_grow ?_)
    | (show dputGo ..; refine dput_box ?_)
    | (show dcallGo ..; (refine dcall_pure (r := ?_) ?_ ?_; rotate_left 1; (focus first | exact hb | exact hk)))
    | (refine And.intro (by kernel_rfl : okAll _ = true) ?_)
    | (show pwCode ..; first | refine pc_seq ?_ | refine pc_region ?_ | refine pc_draw (by kernel_rfl) ?_ | refine pc_ret ?_ | refine pc_skip ?_ | refine pc_block ?_ | refine pc_exit ?_ | refine pc_cond ?_)
    | (show condGo ..; first | refine cd_t ?_ | refine cd_f ?_ | refine cd_n (fun _ => ?_) (fun _ => ?_) | refine cd_b (fun _ => ?_) (fun _ => ?_))
    | refine th_normal ?_
    | refine th_ret ?_
    | refine th_exit ?_
    | refine th_pan ?_
    | refine bl_normal ?_
    | refine bl_exit ?_
    | refine bl_pass rfl ?_
    | refine bl_ret ?_
    | refine bl_pan ?_
    | (show retQ ..; first | refine rt_ret ?_ | refine rt_normal ?_)
    | refine rs_some ?_)
    all_goals rfl
  | true =>
    rw [hbr] at hb
    obtain ⟨hl, hd⟩ := brief_lens hbr
    have hs := r13_sound o ha (by omega)
    cases hsd : sound o with
    | false =>
      rw [hsd] at hs
      repeat' (first
    | (show pwOps ..; first | refine pops_nil ?_ | refine pops_n rfl ?_ | refine pops_w' rfl rfl ?_)
    | (show runGo ..; first | refine run_ev rfl rfl ?_ | refine run_call rfl ?_)
    | (show goOn ..; first | refine on_nop ?_ | refine on_new ?_ | refine on_put ?_ | refine on_born ?_ | refine on_grow ?_)
    | (show putGo ..; refine put_box ?_)
    | (show callGo ..; (refine call_pure (r := ?_) ?_ ?_; rotate_left 1; (focus first | exact hb | exact hs | exact hk)))
    | (show wGo ..; first | refine gw_tt ?_ | refine gw_ff ?_ | refine gw_tf ?_ | refine gw_ft ?_ | refine gw_u ?_ | refine gw_tn (fun _ => ?_) (fun _ => ?_) | refine gw_fn (fun _ => ?_) (fun _ => ?_) | refine gw_tb (fun _ => ?_) (fun _ => ?_) | refine gw_fb (fun _ => ?_) (fun _ => ?_))
    | (show dr ..; first | refine dr_nil ?_ | refine dr_n rfl ?_ | refine dr_w' rfl rfl ?_)
    | (show drGo ..; first | refine dr_ev rfl ?_ | refine dr_call rfl ?_)
    | (show drOn ..; first | refine dn_nop ?_ | refine dn_new ?_ | refine dn_put ?_ | refine dn_born ?_ | refine dn_grow ?_)
    | (show dputGo ..; refine dput_box ?_)
    | (show dcallGo ..; (refine dcall_pure (r := ?_) ?_ ?_; rotate_left 1; (focus first | exact hb | exact hs | exact hk)))
    | (refine And.intro (by kernel_rfl : okAll _ = true) ?_)
    | (show pwCode ..; first | refine pc_seq ?_ | refine pc_region ?_ | refine pc_draw (by kernel_rfl) ?_ | refine pc_ret ?_ | refine pc_skip ?_ | refine pc_block ?_ | refine pc_exit ?_ | refine pc_cond ?_)
    | (show condGo ..; first | refine cd_t ?_ | refine cd_f ?_ | refine cd_n (fun _ => ?_) (fun _ => ?_) | refine cd_b (fun _ => ?_) (fun _ => ?_))
    | refine th_normal ?_
    | refine th_ret ?_
    | refine th_exit ?_
    | refine th_pan ?_
    | refine bl_normal ?_
    | refine bl_exit ?_
    | refine bl_pass rfl ?_
    | refine bl_ret ?_
    | refine bl_pan ?_
    | (show retQ ..; first | refine rt_ret ?_ | refine rt_normal ?_)
    | refine rs_some ?_)
      all_goals rfl
    | true =>
      rw [hsd] at hs
      have hsh := obj_shown o (by omega)
      rw [shown_eq hsd] at hsh
      have hst := shown_star hsd
      have hth := r13_sameThread Th.zero Th.zero Th.zeroL
      rw [sameTh_refl] at hth
      have hgt := r13_sameGate Gt.zero Gt.zero Gt.zeroL
      rw [sameGt_refl] at hgt
      clear hbr
      repeat' (first
    | (show pwOps ..; first | refine pops_nil ?_ | refine pops_n rfl ?_ | refine pops_w' rfl rfl ?_)
    | (show runGo ..; first | refine run_ev rfl rfl ?_ | refine run_call rfl ?_)
    | (show goOn ..; first | refine on_nop ?_ | refine on_new ?_ | refine on_put ?_ | refine on_born ?_ | refine on_grow ?_)
    | (show putGo ..; refine put_box ?_)
    | (show callGo ..; (refine call_pure (r := ?_) ?_ ?_; rotate_left 1; (focus first | exact hb | exact hs | exact hk | exact obj_head _ | exact hsh | exact hth | exact hgt)))
    | (show wGo ..; first | refine gw_tt ?_ | refine gw_ff ?_ | refine gw_tf ?_ | refine gw_ft ?_ | refine gw_u ?_ | refine gw_tn (fun _ => ?_) (fun _ => ?_) | refine gw_fn (fun _ => ?_) (fun _ => ?_) | refine gw_tb (fun _ => ?_) (fun _ => ?_) | refine gw_fb (fun _ => ?_) (fun _ => ?_))
    | (show dr ..; first | refine dr_nil ?_ | refine dr_n rfl ?_ | refine dr_w' rfl rfl ?_)
    | (show drGo ..; first | refine dr_ev rfl ?_ | refine dr_call rfl ?_)
    | (show drOn ..; first | refine dn_nop ?_ | refine dn_new ?_ | refine dn_put ?_ | refine dn_born ?_ | refine dn_grow ?_)
    | (show dputGo ..; refine dput_box ?_)
    | (show dcallGo ..; (refine dcall_pure (r := ?_) ?_ ?_; rotate_left 1; (focus first | exact hb | exact hs | exact hk | exact obj_head _ | exact hsh | exact hth | exact hgt)))
    | (refine And.intro (by kernel_rfl : okAll _ = true) ?_)
    | (show pwCode ..; first | refine pc_seq ?_ | refine pc_region ?_ | refine pc_draw (by kernel_rfl) ?_ | refine pc_ret ?_ | refine pc_skip ?_ | refine pc_block ?_ | refine pc_exit ?_ | refine pc_cond ?_)
    | (show condGo ..; first | refine cd_t ?_ | refine cd_f ?_ | refine cd_n (fun _ => ?_) (fun _ => ?_) | refine cd_b (fun _ => ?_) (fun _ => ?_))
    | refine th_normal ?_
    | refine th_ret ?_
    | refine th_exit ?_
    | refine th_pan ?_
    | refine bl_normal ?_
    | refine bl_exit ?_
    | refine bl_pass rfl ?_
    | refine bl_ret ?_
    | refine bl_pan ?_
    | (show retQ ..; first | refine rt_ret ?_ | refine rt_normal ?_)
    | refine rs_some ?_)
      refine pc_loop (S := Nat) (fun n => (shownR o).length - n) (fun n => n ≤ (shownR o).length) (fun n => [(1, .ptr 0 0), (3, .ptr 1 0), (4, .sl ((shownR o).map Pr.enc)), (82, .sl ((shownR o).map Pr.enc)), (83, .int .i64 (shownR o).length), (84, .int .i64 n)]) (fun _ => [(0, .box (Ob.enc o)), (1, .box (Ob.enc (seenOf o)))]) (fun _ => 2) 0 (Nat.zero_le _) (by (refine keepI ?_ ?_ <;> repeat' (first | exact ke_nil | exact kg_nil | refine ke_cons (by (try simp only [go_sem, *]); try rfl) (by simp only [go_sem, *]) ?_ | refine kg_box (by (try simp only [go_sem, *]); try rfl) (by omega) (by simp only [go_sem, *]) ?_ | refine kg_row (by (try simp only [go_sem, *]); try rfl) (by omega) (by simp only [go_sem, *]) ?_))) ?_
      intro n hn
      rcases Nat.lt_or_ge n (shownR o).length with hlt | hge
      · obtain ⟨x, hx⟩ := lt_len hlt
        have h0 := lt_true hlt
        have h4 := wrap_nat n (by have := shown_len (o := o); omega)
        have hx0 := hst x (List.mem_of_getElem? hx)
        clear hst
        repeat' (first
    | (show pwOps ..; first | refine pops_nil ?_ | refine pops_n rfl ?_ | refine pops_w' rfl rfl ?_)
    | (show runGo ..; first | refine run_ev rfl rfl ?_ | refine run_call rfl ?_)
    | (show goOn ..; first | refine on_nop ?_ | refine on_new ?_ | refine on_put ?_ | refine on_born ?_ | refine on_grow ?_)
    | (show putGo ..; refine put_box ?_)
    | (show wGo ..; first | refine gw_tt ?_ | refine gw_ff ?_ | refine gw_tf ?_ | refine gw_ft ?_ | refine gw_u ?_ | refine gw_tn (fun _ => ?_) (fun _ => ?_) | refine gw_fn (fun _ => ?_) (fun _ => ?_) | refine gw_tb (fun _ => ?_) (fun _ => ?_) | refine gw_fb (fun _ => ?_) (fun _ => ?_))
    | (show dr ..; first | refine dr_nil ?_ | refine dr_n rfl ?_ | refine dr_w' rfl rfl ?_)
    | (show drGo ..; first | refine dr_ev rfl ?_ | refine dr_call rfl ?_)
    | (show drOn ..; first | refine dn_nop ?_ | refine dn_new ?_ | refine dn_put ?_ | refine dn_born ?_ | refine dn_grow ?_)
    | (show dputGo ..; refine dput_box ?_)
    | (refine And.intro (by kernel_rfl : okAll _ = true) ?_)
    | (show pwCode ..; first | refine pc_seq ?_ | refine pc_region ?_ | refine pc_draw (by kernel_rfl) ?_ | refine pc_ret ?_ | refine pc_skip ?_ | refine pc_block ?_ | refine pc_exit ?_ | refine pc_cond ?_)
    | (show condGo ..; first | refine cd_t ?_ | refine cd_f ?_ | refine cd_n (fun _ => ?_) (fun _ => ?_) | refine cd_b (fun _ => ?_) (fun _ => ?_))
    | refine th_normal ?_
    | refine th_ret ?_
    | refine th_exit ?_
    | refine th_pan ?_
    | refine bl_normal ?_
    | refine bl_exit ?_
    | refine bl_pass rfl ?_
    | refine bl_ret ?_
    | refine bl_pan ?_
    | (show retQ ..; first | refine rt_ret ?_ | refine rt_normal ?_)
    | refine rs_some ?_)
        exact again (n + 1) (show n + 1 ≤ (shownR o).length from hlt) (by show (shownR o).length - (n + 1) < (shownR o).length - n; omega) (by (refine keepI ?_ ?_ <;> repeat' (first | exact ke_nil | exact kg_nil | refine ke_cons (by (try simp only [go_sem, *]); try rfl) (by simp only [go_sem, *]) ?_ | refine kg_box (by (try simp only [go_sem, *]); try rfl) (by omega) (by simp only [go_sem, *]) ?_ | refine kg_row (by (try simp only [go_sem, *]); try rfl) (by omega) (by simp only [go_sem, *]) ?_)))
      · have h0 := lt_false hge
        clear hst
        cases hkd : (o.kind == 4) with
        | true =>
          have e1 : (seenOf o).label = [] := by unfold seenOf; simp only [hkd, if_true]
          repeat' (first
    | (show pwOps ..; first | refine pops_nil ?_ | refine pops_n rfl ?_ | refine pops_w' rfl rfl ?_)
    | (show runGo ..; first | refine run_ev rfl rfl ?_ | refine run_call rfl ?_)
    | (show goOn ..; first | refine on_nop ?_ | refine on_new ?_ | refine on_put ?_ | refine on_born ?_ | refine on_grow ?_)
    | (show putGo ..; refine put_box ?_)
    | (show callGo ..; (refine call_pure (r := ?_) ?_ ?_; rotate_left 1; (focus first | exact hk)))
    | (show wGo ..; first | refine gw_tt ?_ | refine gw_ff ?_ | refine gw_tf ?_ | refine gw_ft ?_ | refine gw_u ?_ | refine gw_tn (fun _ => ?_) (fun _ => ?_) | refine gw_fn (fun _ => ?_) (fun _ => ?_) | refine gw_tb (fun _ => ?_) (fun _ => ?_) | refine gw_fb (fun _ => ?_) (fun _ => ?_))
    | (show dr ..; first | refine dr_nil ?_ | refine dr_n rfl ?_ | refine dr_w' rfl rfl ?_)
    | (show drGo ..; first | refine dr_ev rfl ?_ | refine dr_call rfl ?_)
    | (show drOn ..; first | refine dn_nop ?_ | refine dn_new ?_ | refine dn_put ?_ | refine dn_born ?_ | refine dn_grow ?_)
    | (show dputGo ..; refine dput_box ?_)
    | (show dcallGo ..; (refine dcall_pure (r := ?_) ?_ ?_; rotate_left 1; (focus first | exact hk)))
    | (refine And.intro (by kernel_rfl : okAll _ = true) ?_)
    | (show pwCode ..; first | refine pc_seq ?_ | refine pc_region ?_ | refine pc_draw (by kernel_rfl) ?_ | refine pc_ret ?_ | refine pc_skip ?_ | refine pc_block ?_ | refine pc_exit ?_ | refine pc_cond ?_)
    | (show condGo ..; first | refine cd_t ?_ | refine cd_f ?_ | refine cd_n (fun _ => ?_) (fun _ => ?_) | refine cd_b (fun _ => ?_) (fun _ => ?_))
    | refine th_normal ?_
    | refine th_ret ?_
    | refine th_exit ?_
    | refine th_pan ?_
    | refine bl_normal ?_
    | refine bl_exit ?_
    | refine bl_pass rfl ?_
    | refine bl_ret ?_
    | refine bl_pan ?_
    | (show retQ ..; first | refine rt_ret ?_ | refine rt_normal ?_)
    | refine rs_some ?_)
          all_goals rfl
        | false =>
          have e1 : (seenOf o).label = o.label := by unfold seenOf; simp only [hkd, if_false, Bool.false_eq_true]
          have e2 : shownR o = o.label := by unfold shownR; simp only [hkd, if_false, Bool.false_eq_true]
          have h0' : decide ((n : Int) < (o.label.length : Int)) = false := by rw [← e2]; exact h0
          have h5 := r13_sameLabel o.label o.label (by omega)
          rw [decide_eq_true (rfl : o.label = o.label)] at h5
          repeat' (first
    | (show pwOps ..; first | refine pops_nil ?_ | refine pops_n rfl ?_ | refine pops_w' rfl rfl ?_)
    | (show runGo ..; first | refine run_ev rfl rfl ?_ | refine run_call rfl ?_)
    | (show goOn ..; first | refine on_nop ?_ | refine on_new ?_ | refine on_put ?_ | refine on_born ?_ | refine on_grow ?_)
    | (show putGo ..; refine put_box ?_)
    | (show callGo ..; (refine call_pure (r := ?_) ?_ ?_; rotate_left 1; (focus first | exact h5 | exact hk)))
    | (show wGo ..; first | refine gw_tt ?_ | refine gw_ff ?_ | refine gw_tf ?_ | refine gw_ft ?_ | refine gw_u ?_ | refine gw_tn (fun _ => ?_) (fun _ => ?_) | refine gw_fn (fun _ => ?_) (fun _ => ?_) | refine gw_tb (fun _ => ?_) (fun _ => ?_) | refine gw_fb (fun _ => ?_) (fun _ => ?_))
    | (show dr ..; first | refine dr_nil ?_ | refine dr_n rfl ?_ | refine dr_w' rfl rfl ?_)
    | (show drGo ..; first | refine dr_ev rfl ?_ | refine dr_call rfl ?_)
    | (show drOn ..; first | refine dn_nop ?_ | refine dn_new ?_ | refine dn_put ?_ | refine dn_born ?_ | refine dn_grow ?_)
    | (show dputGo ..; refine dput_box ?_)
    | (show dcallGo ..; (refine dcall_pure (r := ?_) ?_ ?_; rotate_left 1; (focus first | exact h5 | exact hk)))
    | (refine And.intro (by kernel_rfl : okAll _ = true) ?_)
    | (show pwCode ..; first | refine pc_seq ?_ | refine pc_region ?_ | refine pc_draw (by kernel_rfl) ?_ | refine pc_ret ?_ | refine pc_skip ?_ | refine pc_block ?_ | refine pc_exit ?_ | refine pc_cond ?_)
    | (show condGo ..; first | refine cd_t ?_ | refine cd_f ?_ | refine cd_n (fun _ => ?_) (fun _ => ?_) | refine cd_b (fun _ => ?_) (fun _ => ?_))
    | refine th_normal ?_
    | refine th_ret ?_
    | refine th_exit ?_
    | refine th_pan ?_
    | refine bl_normal ?_
    | refine bl_exit ?_
    | refine bl_pass rfl ?_
    | refine bl_ret ?_
    | refine bl_pan ?_
    | (show retQ ..; first | refine rt_ret ?_ | refine rt_normal ?_)
    | refine rs_some ?_)
          all_goals rfl
end Go.Proofs.Ytggkjfllbfcagaa
end
