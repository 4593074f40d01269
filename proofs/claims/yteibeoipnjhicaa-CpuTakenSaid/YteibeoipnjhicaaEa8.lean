import Derived.Test.YteibeoipnjhicaaEa7
namespace Go.Proofs.Yteibeoipnjhicaa
open Go Go.RowKit
set_option linter.unusedVariables false
set_option linter.unusedSimpArgs false
set_option maxHeartbeats 16000000
set_option maxRecDepth 100000
attribute [local irreducible] pwOps dr pwCode Ex.then Ex.inBlock retQ okAll drawOk Pure CSat evOp calleeP rdOf upd hset strip sp0 cut envL heapL Again Keep BdL evBs AgainK KeepK
/-! obj: small functions. -/
theorem any_above (l : List Pr) : l.any (fun p => p.lev == 5) = !allB l.length (noAbove l) := by
  cases h : l.any (fun p => p.lev == 5) with
  | true =>
    obtain ⟨x, hx, hp⟩ := List.any_eq_true.1 h
    obtain ⟨j, hj⟩ := List.getElem?_of_mem hx
    rw [allB_false (len_lt hj) (by unfold noAbove; rw [hj]; simp only; rw [hp]; rfl)]; rfl
  | false =>
    rw [allB_true]; · rfl
    intro j hj
    unfold noAbove
    cases hx : l[j]? with
    | none => rfl
    | some x =>
      have := List.any_eq_false.1 h x (List.mem_of_getElem? hx)
      simp only; cases hc : (x.lev == 5) with
      | true => rw [hc] at this; exact absurd rfl this
      | false => rfl
theorem obj_idOf (o : Ob) : Pure Try.prog 22 [.agg (Ob.enc o)] (.int .u64 o.id) := by
  refine pureI (by kernel_rfl) (by simp only [go_sem, *]) (by simp only [go_sem, *]) Try.func22 Try.results22 rfl (by simp [Try.ntmps22]) (by kernel_rfl) ?_
  repeat' (first
    | (show pwOps ..; first | refine pops_nil ?_ | refine pops_n rfl ?_ | refine pops_w' rfl rfl ?_)
    | (show runGo ..; first | refine run_ev rfl rfl ?_ | refine run_call rfl ?_)
    | (show goOn ..; first | refine on_nop ?_ | refine on_new ?_ | refine on_put ?_ | refine on_born ?_ | refine on_grow ?_)
    | (show putGo ..; refine put_box ?_)
    | (show wGo ..; first | refine gw_tt ?_ | refine gw_ff ?_ | refine gw_tf ?_ | refine gw_ft ?_ | refine gw_u ?_ | refine gw_tn (fun _ => ?_) (fun _ => ?_) | refine gw_fn (fun _ => ?_) (fun _ => ?_) | refine gw_tb (fun _ => ?_) (fun _ => ?_) | refine gw_fb (fun _ => ?_) (fun _ => ?_))
    | (show dr ..; first | refine dr_nil ?_ | refine dr_n rfl ?_ | refine dr_w' rfl rfl ?_)
    | (show drGo ..; first | refine dr_ev rfl ?_ | refine dr_call rfl ?_)
    | (show drOn ..; first | refine dn_nop ?_ | refine dn_new ?_ | refine dn_put ?_ | refine dn_born ?_ | refine dn_grow ?_)
    | (show dputGo ..; refine dput_box ?_)
    | (refine And.intro (by kernel_rfl : okAll _ = true) ?_)
    | (show pwCode ..; first | refine pc_seq ?_ | refine pc_region ?_ | refine pc_draw (by kernel_rfl) ?_ | refine pc_ret ?_ | refine pc_skip ?_ | refine pc_block ?_ | refine pc_exit ?_ | refine pc_cond ?_)
    | (show condGo ..; first | refine cd_t ?_ | refine cd_f ?_ | refine cd_n (fun _ => ?_) (fun _ => ?_) | refine cd_b (fun _ => ?_) (fun _ => ?_))
    | refine th_normal ?_
    | refine th_ret ?_
    | refine th_exit ?_
    | refine th_pan ?_
    | refine bl_normal ?_
    | refine bl_exit ?_
    | refine bl_pass rfl ?_
    | refine bl_ret ?_
    | refine bl_pan ?_
    | (show retQ ..; first | refine rt_ret ?_ | refine rt_normal ?_)
    | refine rs_some ?_)
  all_goals rfl
theorem gt0 (n : Int) : decide (n > 0) = decide (n ≥ 1) := by
  by_cases h : n ≥ 1
  · rw [decide_eq_true h, decide_eq_true (by omega)]
  · rw [decide_eq_false h, decide_eq_false (by omega)]
def upAt {α : Type} (of : α → Int) (l : List α) (j : Nat) : Bool := match l[j]? with
  | some x => match l[j + 1]? with
    | some y => !decide (of x ≥ of y)
    | none => true
  | none => true
end Go.Proofs.Yteibeoipnjhicaa
