import Derived.Test.YteibeoipnjhicaaEcf
namespace Go.Proofs.Yteibeoipnjhicaa
open Go Go.RowKit
set_option linter.unusedVariables false
set_option linter.unusedSimpArgs false
set_option maxHeartbeats 16000000
set_option maxRecDepth 100000
/-! cpu: faults, alerts, and no step. -/
@[go_sem] theorem spl_reg14 (x : Th) (v : Int) : splice (Th.enc x) 14 [.int .u64 v] = Th.enc { x with regs := fun i => if i = 14 then v else x.regs i } := by kernel_rfl
@[go_sem] theorem spl_reg15 (x : Th) (v : Int) : splice (Th.enc x) 15 [.int .u64 v] = Th.enc { x with regs := fun i => if i = 15 then v else x.regs i } := by kernel_rfl
attribute [go_sem] Option.map_none Option.map_some
@[go_sem] theorem drop1_one (x : List PV) (l : List Int) : List.drop 1 (List.take (l.length + 1) (x :: List.map u64 l)) = List.map u64 l := by
  rw [List.take_of_length_le (by simp)]; rfl
@[go_sem] theorem drop1_two (x y : List PV) (l : List Int) : List.drop 1 (List.take (l.length + 1 + 1) (x :: y :: List.map u64 l)) = y :: List.map u64 l := by
  rw [List.take_of_length_le (by simp)]; rfl
@[go_sem] theorem spl1_alerts (x : Th) (b : Int) (v : List Int) : splice (Th.enc x) 28 [.sl (u64 b :: List.map u64 v)] = Th.enc { x with alerts := b :: v } := by kernel_rfl
@[go_sem] theorem all_c0 (l : List Int) : (List.map u64 l).all (fun r => r.length == 1) = true := by simp [u64]
@[go_sem] theorem all_c (b : Int) (l : List Int) : (u64 b :: List.map u64 l).all (fun r => r.length == 1) = true := by simp [u64]
def faultT (t : Th) (why : Int) : Th := if (t.handler == 0) = true then { t with state := 2, wait := Wt.zero } else { t with regs := fun i => if i = 15 then why else if i = 14 then t.pc else t.regs i, pc := t.handler, handler := 0 }
def alertT (t : Th) : Th × Bool := match t.alerts with
  | [] => (t, false)
  | a :: l => if (t.vector == 0) = true then (t, false) else ({ t with regs := fun i => if i = 15 then a else if i = 14 then t.pc else t.regs i, alerts := l, pc := t.vector, vector := 0 }, true)
attribute [local irreducible] pwOps dr pwCode Ex.then Ex.inBlock retQ okAll drawOk Pure CSat evOp calleeP rdOf upd hset strip sp0 cut envL heapL Again Keep BdL evBs AgainK KeepK
theorem cpu_fault (t : Th) (why : Int) : Pure Try.prog 5 [.agg (Th.enc t), .int .u64 why] (.agg (Th.enc (faultT t why))) := by
  unfold faultT
  cases hh : (t.handler == 0) with
  | true =>
    simp only [if_true]
    refine pureI (by kernel_rfl) (by simp only [go_sem, *]) (by simp only [go_sem, *]) Try.func5 Try.results5 rfl (by simp [Try.ntmps5]) (by kernel_rfl) ?_
    repeat' (first
    | (show pwOps ..; first | refine pops_nil ?_ | refine pops_n rfl ?_ | refine pops_w' rfl rfl ?_)
    | (show runGo ..; first | refine run_ev rfl rfl ?_ | refine run_call rfl ?_)
    | (show goOn ..; first | refine on_nop ?_ | refine on_new ?_ | refine on_put ?_ | refine on_born ?_ | refine on_grow ?_)
    | (show putGo ..; refine put_box ?_)
    | (show wGo ..; first | refine gw_tt ?_ | refine gw_ff ?_ | refine gw_tf ?_ | refine gw_ft ?_ | refine gw_u ?_ | refine gw_tn (fun _ => ?_) (fun _ => ?_) | refine gw_fn (fun _ => ?_) (fun _ => ?_) | refine gw_tb (fun _ => ?_) (fun _ => ?_) | refine gw_fb (fun _ => ?_) (fun _ => ?_))
    | (show dr ..; first | refine dr_nil ?_ | refine dr_n rfl ?_ | refine dr_w' rfl rfl ?_)
    | (show drGo ..; first | refine dr_ev rfl ?_ | refine dr_call rfl ?_)
    | (show drOn ..; first | refine dn_nop ?_ | refine dn_new ?_ | refine dn_put ?_ | refine dn_born ?_ | refine dn_grow ?_)
    | (show dputGo ..; refine dput_box ?_)
    | (refine And.intro (by kernel_rfl : okAll _ = true) ?_)
    | (show pwCode ..; first | refine pc_seq ?_ | refine pc_region ?_ | refine pc_draw (by kernel_rfl) ?_ | refine pc_ret ?_ | refine pc_skip ?_ | refine pc_block ?_ | refine pc_exit ?_ | refine pc_cond ?_)
    | (show condGo ..; first | refine cd_t ?_ | refine cd_f ?_ | refine cd_n (fun _ => ?_) (fun _ => ?_) | refine cd_b (fun _ => ?_) (fun _ => ?_))
    | refine th_normal ?_
    | refine th_ret ?_
    | refine th_exit ?_
    | refine th_pan ?_
    | refine bl_normal ?_
    | refine bl_exit ?_
    | refine bl_pass rfl ?_
    | refine bl_ret ?_
    | refine bl_pan ?_
    | (show retQ ..; first | refine rt_ret ?_ | refine rt_normal ?_)
    | refine rs_some ?_)
    all_goals rfl
  | false =>
    simp only [Bool.false_eq_true, if_false]
    refine pureI (by kernel_rfl) (by simp only [go_sem, *]) (by simp only [go_sem, *]) Try.func5 Try.results5 rfl (by simp [Try.ntmps5]) (by kernel_rfl) ?_
    repeat' (first
    | (show pwOps ..; first | refine pops_nil ?_ | refine pops_n rfl ?_ | refine pops_w' rfl rfl ?_)
    | (show runGo ..; first | refine run_ev rfl rfl ?_ | refine run_call rfl ?_)
    | (show goOn ..; first | refine on_nop ?_ | refine on_new ?_ | refine on_put ?_ | refine on_born ?_ | refine on_grow ?_)
    | (show putGo ..; refine put_box ?_)
    | (show wGo ..; first | refine gw_tt ?_ | refine gw_ff ?_ | refine gw_tf ?_ | refine gw_ft ?_ | refine gw_u ?_ | refine gw_tn (fun _ => ?_) (fun _ => ?_) | refine gw_fn (fun _ => ?_) (fun _ => ?_) | refine gw_tb (fun _ => ?_) (fun _ => ?_) | refine gw_fb (fun _ => ?_) (fun _ => ?_))
    | (show dr ..; first | refine dr_nil ?_ | refine dr_n rfl ?_ | refine dr_w' rfl rfl ?_)
    | (show drGo ..; first | refine dr_ev rfl ?_ | refine dr_call rfl ?_)
    | (show drOn ..; first | refine dn_nop ?_ | refine dn_new ?_ | refine dn_put ?_ | refine dn_born ?_ | refine dn_grow ?_)
    | (show dputGo ..; refine dput_box ?_)
    | (refine And.intro (by kernel_rfl : okAll _ = true) ?_)
    | (show pwCode ..; first | refine pc_seq ?_ | refine pc_region ?_ | refine pc_draw (by kernel_rfl) ?_ | refine pc_ret ?_ | refine pc_skip ?_ | refine pc_block ?_ | refine pc_exit ?_ | refine pc_cond ?_)
    | (show condGo ..; first | refine cd_t ?_ | refine cd_f ?_ | refine cd_n (fun _ => ?_) (fun _ => ?_) | refine cd_b (fun _ => ?_) (fun _ => ?_))
    | refine th_normal ?_
    | refine th_ret ?_
    | refine th_exit ?_
    | refine th_pan ?_
    | refine bl_normal ?_
    | refine bl_exit ?_
    | refine bl_pass rfl ?_
    | refine bl_ret ?_
    | refine bl_pan ?_
    | (show retQ ..; first | refine rt_ret ?_ | refine rt_normal ?_)
    | refine rs_some ?_)
    all_goals rfl
theorem cpu_alert (t : Th) (hl : t.alerts.length ≤ 100) : Pure Try.prog 6 [.agg (Th.enc t)] (.tup [.agg (Th.enc (alertT t).1), .bool (alertT t).2]) := by
  unfold alertT
  obtain ⟨regs, pc, clear, space, handler, vector, state, wait, alerts, span, labs⟩ := t
  simp only at hl ⊢
  cases alerts with
  | nil =>
    simp only
    refine pureI (by kernel_rfl) (by simp only [go_sem, *]) (by simp only [go_sem, *]) Try.func6 Try.results6 rfl (by simp [Try.ntmps6]) (by kernel_rfl) ?_
    repeat' (first
    | (show pwOps ..; first | refine pops_nil ?_ | refine pops_n rfl ?_ | refine pops_w' rfl rfl ?_)
    | (show runGo ..; first | refine run_ev rfl rfl ?_ | refine run_call rfl ?_)
    | (show goOn ..; first | refine on_nop ?_ | refine on_new ?_ | refine on_put ?_ | refine on_born ?_ | refine on_grow ?_)
    | (show putGo ..; refine put_box ?_)
    | (show wGo ..; first | refine gw_tt ?_ | refine gw_ff ?_ | refine gw_tf ?_ | refine gw_ft ?_ | refine gw_u ?_ | refine gw_tn (fun _ => ?_) (fun _ => ?_) | refine gw_fn (fun _ => ?_) (fun _ => ?_) | refine gw_tb (fun _ => ?_) (fun _ => ?_) | refine gw_fb (fun _ => ?_) (fun _ => ?_))
    | (show dr ..; first | refine dr_nil ?_ | refine dr_n rfl ?_ | refine dr_w' rfl rfl ?_)
    | (show drGo ..; first | refine dr_ev rfl ?_ | refine dr_call rfl ?_)
    | (show drOn ..; first | refine dn_nop ?_ | refine dn_new ?_ | refine dn_put ?_ | refine dn_born ?_ | refine dn_grow ?_)
    | (show dputGo ..; refine dput_box ?_)
    | (refine And.intro (by kernel_rfl : okAll _ = true) ?_)
    | (show pwCode ..; first | refine pc_seq ?_ | refine pc_region ?_ | refine pc_draw (by kernel_rfl) ?_ | refine pc_ret ?_ | refine pc_skip ?_ | refine pc_block ?_ | refine pc_exit ?_ | refine pc_cond ?_)
    | (show condGo ..; first | refine cd_t ?_ | refine cd_f ?_ | refine cd_n (fun _ => ?_) (fun _ => ?_) | refine cd_b (fun _ => ?_) (fun _ => ?_))
    | refine th_normal ?_
    | refine th_ret ?_
    | refine th_exit ?_
    | refine th_pan ?_
    | refine bl_normal ?_
    | refine bl_exit ?_
    | refine bl_pass rfl ?_
    | refine bl_ret ?_
    | refine bl_pan ?_
    | (show retQ ..; first | refine rt_ret ?_ | refine rt_normal ?_)
    | refine rs_some ?_)
    all_goals rfl
  | cons a l =>
    simp only [List.length_cons] at hl
    have e1 : (((l.length + 1 : Nat) : Int) == 0) = false := by simp; omega
    cases hv : (vector == 0) with
    | true =>
      simp only [if_true]
      refine pureI (by kernel_rfl) (by simp only [go_sem, *]) (by simp only [go_sem, *]) Try.func6 Try.results6 rfl (by simp [Try.ntmps6]) (by kernel_rfl) ?_
      repeat' (first
    | (show pwOps ..; first | refine pops_nil ?_ | refine pops_n rfl ?_ | refine pops_w' rfl rfl ?_)
    | (show runGo ..; first | refine run_ev rfl rfl ?_ | refine run_call rfl ?_)
    | (show goOn ..; first | refine on_nop ?_ | refine on_new ?_ | refine on_put ?_ | refine on_born ?_ | refine on_grow ?_)
    | (show putGo ..; refine put_box ?_)
    | (show wGo ..; first | refine gw_tt ?_ | refine gw_ff ?_ | refine gw_tf ?_ | refine gw_ft ?_ | refine gw_u ?_ | refine gw_tn (fun _ => ?_) (fun _ => ?_) | refine gw_fn (fun _ => ?_) (fun _ => ?_) | refine gw_tb (fun _ => ?_) (fun _ => ?_) | refine gw_fb (fun _ => ?_) (fun _ => ?_))
    | (show dr ..; first | refine dr_nil ?_ | refine dr_n rfl ?_ | refine dr_w' rfl rfl ?_)
    | (show drGo ..; first | refine dr_ev rfl ?_ | refine dr_call rfl ?_)
    | (show drOn ..; first | refine dn_nop ?_ | refine dn_new ?_ | refine dn_put ?_ | refine dn_born ?_ | refine dn_grow ?_)
    | (show dputGo ..; refine dput_box ?_)
    | (refine And.intro (by kernel_rfl : okAll _ = true) ?_)
    | (show pwCode ..; first | refine pc_seq ?_ | refine pc_region ?_ | refine pc_draw (by kernel_rfl) ?_ | refine pc_ret ?_ | refine pc_skip ?_ | refine pc_block ?_ | refine pc_exit ?_ | refine pc_cond ?_)
    | (show condGo ..; first | refine cd_t ?_ | refine cd_f ?_ | refine cd_n (fun _ => ?_) (fun _ => ?_) | refine cd_b (fun _ => ?_) (fun _ => ?_))
    | refine th_normal ?_
    | refine th_ret ?_
    | refine th_exit ?_
    | refine th_pan ?_
    | refine bl_normal ?_
    | refine bl_exit ?_
    | refine bl_pass rfl ?_
    | refine bl_ret ?_
    | refine bl_pan ?_
    | (show retQ ..; first | refine rt_ret ?_ | refine rt_normal ?_)
    | refine rs_some ?_)
      all_goals rfl
    | false =>
      simp only [Bool.false_eq_true, if_false]
      cases l with
      | nil =>
        refine pureI (by kernel_rfl) (by simp only [go_sem, *]) (by simp only [go_sem, *]) Try.func6 Try.results6 rfl (by simp [Try.ntmps6]) (by kernel_rfl) ?_
        repeat' (first
    | (show pwOps ..; first | refine pops_nil ?_ | refine pops_n rfl ?_ | refine pops_w' rfl rfl ?_)
    | (show runGo ..; first | refine run_ev rfl rfl ?_ | refine run_call rfl ?_)
    | (show goOn ..; first | refine on_nop ?_ | refine on_new ?_ | refine on_put ?_ | refine on_born ?_ | refine on_grow ?_)
    | (show putGo ..; refine put_box ?_)
    | (show wGo ..; first | refine gw_tt ?_ | refine gw_ff ?_ | refine gw_tf ?_ | refine gw_ft ?_ | refine gw_u ?_ | refine gw_tn (fun _ => ?_) (fun _ => ?_) | refine gw_fn (fun _ => ?_) (fun _ => ?_) | refine gw_tb (fun _ => ?_) (fun _ => ?_) | refine gw_fb (fun _ => ?_) (fun _ => ?_))
    | (show dr ..; first | refine dr_nil ?_ | refine dr_n rfl ?_ | refine dr_w' rfl rfl ?_)
    | (show drGo ..; first | refine dr_ev rfl ?_ | refine dr_call rfl ?_)
    | (show drOn ..; first | refine dn_nop ?_ | refine dn_new ?_ | refine dn_put ?_ | refine dn_born ?_ | refine dn_grow ?_)
    | (show dputGo ..; refine dput_box ?_)
    | (refine And.intro (by kernel_rfl : okAll _ = true) ?_)
    | (show pwCode ..; first | refine pc_seq ?_ | refine pc_region ?_ | refine pc_draw (by kernel_rfl) ?_ | refine pc_ret ?_ | refine pc_skip ?_ | refine pc_block ?_ | refine pc_exit ?_ | refine pc_cond ?_)
    | (show condGo ..; first | refine cd_t ?_ | refine cd_f ?_ | refine cd_n (fun _ => ?_) (fun _ => ?_) | refine cd_b (fun _ => ?_) (fun _ => ?_))
    | refine th_normal ?_
    | refine th_ret ?_
    | refine th_exit ?_
    | refine th_pan ?_
    | refine bl_normal ?_
    | refine bl_exit ?_
    | refine bl_pass rfl ?_
    | refine bl_ret ?_
    | refine bl_pan ?_
    | (show retQ ..; first | refine rt_ret ?_ | refine rt_normal ?_)
    | refine rs_some ?_)
        all_goals rfl
      | cons b l =>
        simp only [List.length_cons] at hl
        have h3 : ((l.length + 1) * 8 ≤ 140737488355328) = True := app_by (by omega) (by decide)
        have h4 : (l.length + 1 ≤ maxLen) = True := app_max (by omega)
        have h5 : ((1 : Int) ≤ ((l.length + 1 + 1 : Nat) : Int)) = True := eq_true (by omega)
        refine pureI (by kernel_rfl) (by simp only [go_sem, *]) (by simp only [go_sem, *]) Try.func6 Try.results6 rfl (by simp [Try.ntmps6]) (by kernel_rfl) ?_
        repeat' (first
    | (show pwOps ..; first | refine pops_nil ?_ | refine pops_n rfl ?_ | refine pops_w' rfl rfl ?_)
    | (show runGo ..; first | refine run_ev rfl rfl ?_ | refine run_call rfl ?_)
    | (show goOn ..; first | refine on_nop ?_ | refine on_new ?_ | refine on_put ?_ | refine on_born ?_ | refine on_grow ?_)
    | (show putGo ..; refine put_box ?_)
    | (show wGo ..; first | refine gw_tt ?_ | refine gw_ff ?_ | refine gw_tf ?_ | refine gw_ft ?_ | refine gw_u ?_ | refine gw_tn (fun _ => ?_) (fun _ => ?_) | refine gw_fn (fun _ => ?_) (fun _ => ?_) | refine gw_tb (fun _ => ?_) (fun _ => ?_) | refine gw_fb (fun _ => ?_) (fun _ => ?_))
    | (show dr ..; first | refine dr_nil ?_ | refine dr_n rfl ?_ | refine dr_w' rfl rfl ?_)
    | (show drGo ..; first | refine dr_ev rfl ?_ | refine dr_call rfl ?_)
    | (show drOn ..; first | refine dn_nop ?_ | refine dn_new ?_ | refine dn_put ?_ | refine dn_born ?_ | refine dn_grow ?_)
    | (show dputGo ..; refine dput_box ?_)
    | (refine And.intro (by kernel_rfl : okAll _ = true) ?_)
    | (show pwCode ..; first | refine pc_seq ?_ | refine pc_region ?_ | refine pc_draw (by kernel_rfl) ?_ | refine pc_ret ?_ | refine pc_skip ?_ | refine pc_block ?_ | refine pc_exit ?_ | refine pc_cond ?_)
    | (show condGo ..; first | refine cd_t ?_ | refine cd_f ?_ | refine cd_n (fun _ => ?_) (fun _ => ?_) | refine cd_b (fun _ => ?_) (fun _ => ?_))
    | refine th_normal ?_
    | refine th_ret ?_
    | refine th_exit ?_
    | refine th_pan ?_
    | refine bl_normal ?_
    | refine bl_exit ?_
    | refine bl_pass rfl ?_
    | refine bl_ret ?_
    | refine bl_pan ?_
    | (show retQ ..; first | refine rt_ret ?_ | refine rt_normal ?_)
    | refine rs_some ?_)
        all_goals rfl
end Go.Proofs.Yteibeoipnjhicaa
