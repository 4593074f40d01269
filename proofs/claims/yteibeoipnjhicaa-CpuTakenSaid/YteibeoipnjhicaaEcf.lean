import Derived.Test.YteibeoipnjhicaaEc1
namespace Go.Proofs.Yteibeoipnjhicaa
open Go Go.RowKit
set_option linter.unusedVariables false
set_option linter.unusedSimpArgs false
set_option maxHeartbeats 16000000
set_option maxRecDepth 100000
attribute [go_sem] hset_same
attribute [local irreducible] pwOps dr pwCode Ex.then Ex.inBlock retQ okAll drawOk Pure CSat evOp calleeP rdOf upd hset strip sp0 cut envL heapL Again Keep BdL evBs AgainK KeepK
/-! Finding an object. -/
@[go_sem] theorem lsO_bd (S : Nat → Prop) (l : List Ob) : BdL S (Ls.enc (LsO l)) = True := eq_true (lsG_bd S l)
theorem obj_at (l : List Ob) (id : Int) (hl : l.length ≤ 1000000) (hs : RisO l) : Pure Try.prog 17 [.agg (Ls.enc (LsO l)), .int .u64 id] (.tup [.int .i64 (posO l id), .bool (hitO l id)]) := by
  refine pureI (by kernel_rfl) (by simp only [go_sem, *]) (by simp only [go_sem, *]) Try.func17 Try.results17 rfl (by simp [Try.ntmps17]) (by kernel_rfl) ?_
  have h := search_ob l id hl hs
  unfold lsG at h
  rw [← hset_heapL] at h
  repeat' (first
    | (show pwOps ..; first | refine pops_nil ?_ | refine pops_n rfl ?_ | refine pops_w' rfl rfl ?_)
    | (show runGo ..; first | refine run_ev rfl rfl ?_ | refine run_call rfl ?_)
    | (show goOn ..; first | refine on_nop ?_ | refine on_new ?_ | refine on_put ?_ | refine on_born ?_ | refine on_grow ?_)
    | (show putGo ..; refine put_box ?_)
    | (show wGo ..; first | refine gw_tt ?_ | refine gw_ff ?_ | refine gw_tf ?_ | refine gw_ft ?_ | refine gw_u ?_ | refine gw_tn (fun _ => ?_) (fun _ => ?_) | refine gw_fn (fun _ => ?_) (fun _ => ?_) | refine gw_tb (fun _ => ?_) (fun _ => ?_) | refine gw_fb (fun _ => ?_) (fun _ => ?_))
    | (show dr ..; first | refine dr_nil ?_ | refine dr_n rfl ?_ | refine dr_w' rfl rfl ?_)
    | (show drGo ..; first | refine dr_ev rfl ?_ | refine dr_call rfl ?_)
    | (show drOn ..; first | refine dn_nop ?_ | refine dn_new ?_ | refine dn_put ?_ | refine dn_born ?_ | refine dn_grow ?_)
    | (show dputGo ..; refine dput_box ?_)
    | (refine And.intro (by kernel_rfl : okAll _ = true) ?_)
    | (show pwCode ..; first | refine pc_seq ?_ | refine pc_region ?_ | refine pc_draw (by kernel_rfl) ?_ | refine pc_ret ?_ | refine pc_skip ?_ | refine pc_block ?_ | refine pc_exit ?_ | refine pc_cond ?_)
    | (show condGo ..; first | refine cd_t ?_ | refine cd_f ?_ | refine cd_n (fun _ => ?_) (fun _ => ?_) | refine cd_b (fun _ => ?_) (fun _ => ?_))
    | refine th_normal ?_
    | refine th_ret ?_
    | refine th_exit ?_
    | refine th_pan ?_
    | refine bl_normal ?_
    | refine bl_exit ?_
    | refine bl_pass rfl ?_
    | refine bl_ret ?_
    | refine bl_pan ?_
    | (show retQ ..; first | refine rt_ret ?_ | refine rt_normal ?_)
    | refine rs_some ?_)
  (refine call_csat (by kernel_rfl) (h) ?_ ?_)
  case refine_2 => rintro p H' m' h; cases h
  rintro r H' m' h
  cases h
  repeat' (first
    | (show pwOps ..; first | refine pops_nil ?_ | refine pops_n rfl ?_ | refine pops_w' rfl rfl ?_)
    | (show runGo ..; first | refine run_ev rfl rfl ?_ | refine run_call rfl ?_)
    | (show goOn ..; first | refine on_nop ?_ | refine on_new ?_ | refine on_put ?_ | refine on_born ?_ | refine on_grow ?_)
    | (show putGo ..; refine put_box ?_)
    | (show wGo ..; first | refine gw_tt ?_ | refine gw_ff ?_ | refine gw_tf ?_ | refine gw_ft ?_ | refine gw_u ?_ | refine gw_tn (fun _ => ?_) (fun _ => ?_) | refine gw_fn (fun _ => ?_) (fun _ => ?_) | refine gw_tb (fun _ => ?_) (fun _ => ?_) | refine gw_fb (fun _ => ?_) (fun _ => ?_))
    | (show dr ..; first | refine dr_nil ?_ | refine dr_n rfl ?_ | refine dr_w' rfl rfl ?_)
    | (show drGo ..; first | refine dr_ev rfl ?_ | refine dr_call rfl ?_)
    | (show drOn ..; first | refine dn_nop ?_ | refine dn_new ?_ | refine dn_put ?_ | refine dn_born ?_ | refine dn_grow ?_)
    | (show dputGo ..; refine dput_box ?_)
    | (refine And.intro (by kernel_rfl : okAll _ = true) ?_)
    | (show pwCode ..; first | refine pc_seq ?_ | refine pc_region ?_ | refine pc_draw (by kernel_rfl) ?_ | refine pc_ret ?_ | refine pc_skip ?_ | refine pc_block ?_ | refine pc_exit ?_ | refine pc_cond ?_)
    | (show condGo ..; first | refine cd_t ?_ | refine cd_f ?_ | refine cd_n (fun _ => ?_) (fun _ => ?_) | refine cd_b (fun _ => ?_) (fun _ => ?_))
    | refine th_normal ?_
    | refine th_ret ?_
    | refine th_exit ?_
    | refine th_pan ?_
    | refine bl_normal ?_
    | refine bl_exit ?_
    | refine bl_pass rfl ?_
    | refine bl_ret ?_
    | refine bl_pan ?_
    | (show retQ ..; first | refine rt_ret ?_ | refine rt_normal ?_)
    | refine rs_some ?_)
  all_goals rfl
theorem obj_objects (w : Wd) : Pure Try.prog 16 [.agg (Wd.enc w)] (.agg (Ls.enc (LsO w.objects))) := by
  refine pureI (by kernel_rfl) (by simp only [go_sem, *]) (by simp only [go_sem, *]) Try.func16 Try.results16 rfl (by simp [Try.ntmps16]) (by kernel_rfl) ?_
  repeat' (first
    | (show pwOps ..; first | refine pops_nil ?_ | refine pops_n rfl ?_ | refine pops_w' rfl rfl ?_)
    | (show runGo ..; first | refine run_ev rfl rfl ?_ | refine run_call rfl ?_)
    | (show goOn ..; first | refine on_nop ?_ | refine on_new ?_ | refine on_put ?_ | refine on_born ?_ | refine on_grow ?_)
    | (show putGo ..; refine put_box ?_)
    | (show wGo ..; first | refine gw_tt ?_ | refine gw_ff ?_ | refine gw_tf ?_ | refine gw_ft ?_ | refine gw_u ?_ | refine gw_tn (fun _ => ?_) (fun _ => ?_) | refine gw_fn (fun _ => ?_) (fun _ => ?_) | refine gw_tb (fun _ => ?_) (fun _ => ?_) | refine gw_fb (fun _ => ?_) (fun _ => ?_))
    | (show dr ..; first | refine dr_nil ?_ | refine dr_n rfl ?_ | refine dr_w' rfl rfl ?_)
    | (show drGo ..; first | refine dr_ev rfl ?_ | refine dr_call rfl ?_)
    | (show drOn ..; first | refine dn_nop ?_ | refine dn_new ?_ | refine dn_put ?_ | refine dn_born ?_ | refine dn_grow ?_)
    | (show dputGo ..; refine dput_box ?_)
    | (refine And.intro (by kernel_rfl : okAll _ = true) ?_)
    | (show pwCode ..; first | refine pc_seq ?_ | refine pc_region ?_ | refine pc_draw (by kernel_rfl) ?_ | refine pc_ret ?_ | refine pc_skip ?_ | refine pc_block ?_ | refine pc_exit ?_ | refine pc_cond ?_)
    | (show condGo ..; first | refine cd_t ?_ | refine cd_f ?_ | refine cd_n (fun _ => ?_) (fun _ => ?_) | refine cd_b (fun _ => ?_) (fun _ => ?_))
    | refine th_normal ?_
    | refine th_ret ?_
    | refine th_exit ?_
    | refine th_pan ?_
    | refine bl_normal ?_
    | refine bl_exit ?_
    | refine bl_pass rfl ?_
    | refine bl_ret ?_
    | refine bl_pan ?_
    | (show retQ ..; first | refine rt_ret ?_ | refine rt_normal ?_)
    | refine rs_some ?_)
  all_goals rfl
theorem hit_lt {l : List Ob} {id : Int} (h : hitO l id = true) : ∃ x, l[posO l id]? = some x ∧ x.id = id ∧ posO l id < l.length := by
  unfold hitO at h
  split at h
  · rename_i x hx; exact ⟨x, hx, by simpa using h, len_lt hx⟩
  · cases h
def findO (w : Wd) (id : Int) : Ob × Bool := if hitO w.objects id = true then ((w.objects[posO w.objects id]?).getD Ob.zero, true) else (Ob.zero, false)
theorem obj_find (w : Wd) (id : Int) (hl : w.objects.length ≤ 1000000) (hs : RisO w.objects) : Pure Try.prog 11 [.agg (Wd.enc w), .int .u64 id] (.tup [.agg (Ob.enc (findO w id).1), .bool (findO w id).2]) := by
  have hat := obj_at w.objects id hl hs
  cases hh : hitO w.objects id with
  | true =>
    rw [hh] at hat
    obtain ⟨y, hy, hyid, hk⟩ := hit_lt hh
    have hf : findO w id = (y, true) := by unfold findO; rw [if_pos hh, hy]; rfl
    rw [hf]
    clear hh hf
    refine pureI (by kernel_rfl) (by simp only [go_sem, *]) (by simp only [go_sem, *]) Try.func11 Try.results11 rfl (by simp [Try.ntmps11]) (by kernel_rfl) ?_
    repeat' (first
    | (show pwOps ..; first | refine pops_nil ?_ | refine pops_n rfl ?_ | refine pops_w' rfl rfl ?_)
    | (show runGo ..; first | refine run_ev rfl rfl ?_ | refine run_call rfl ?_)
    | (show goOn ..; first | refine on_nop ?_ | refine on_new ?_ | refine on_put ?_ | refine on_born ?_ | refine on_grow ?_)
    | (show putGo ..; refine put_box ?_)
    | (show callGo ..; (refine call_pure (r := ?_) ?_ ?_; rotate_left 1; (focus first | exact obj_objects _ | exact hat)))
    | (show wGo ..; first | refine gw_tt ?_ | refine gw_ff ?_ | refine gw_tf ?_ | refine gw_ft ?_ | refine gw_u ?_ | refine gw_tn (fun _ => ?_) (fun _ => ?_) | refine gw_fn (fun _ => ?_) (fun _ => ?_) | refine gw_tb (fun _ => ?_) (fun _ => ?_) | refine gw_fb (fun _ => ?_) (fun _ => ?_))
    | (show dr ..; first | refine dr_nil ?_ | refine dr_n rfl ?_ | refine dr_w' rfl rfl ?_)
    | (show drGo ..; first | refine dr_ev rfl ?_ | refine dr_call rfl ?_)
    | (show drOn ..; first | refine dn_nop ?_ | refine dn_new ?_ | refine dn_put ?_ | refine dn_born ?_ | refine dn_grow ?_)
    | (show dputGo ..; refine dput_box ?_)
    | (show dcallGo ..; (refine dcall_pure (r := ?_) ?_ ?_; rotate_left 1; (focus first | exact obj_objects _ | exact hat)))
    | (refine And.intro (by kernel_rfl : okAll _ = true) ?_)
    | (show pwCode ..; first | refine pc_seq ?_ | refine pc_region ?_ | refine pc_draw (by kernel_rfl) ?_ | refine pc_ret ?_ | refine pc_skip ?_ | refine pc_block ?_ | refine pc_exit ?_ | refine pc_cond ?_)
    | (show condGo ..; first | refine cd_t ?_ | refine cd_f ?_ | refine cd_n (fun _ => ?_) (fun _ => ?_) | refine cd_b (fun _ => ?_) (fun _ => ?_))
    | refine th_normal ?_
    | refine th_ret ?_
    | refine th_exit ?_
    | refine th_pan ?_
    | refine bl_normal ?_
    | refine bl_exit ?_
    | refine bl_pass rfl ?_
    | refine bl_ret ?_
    | refine bl_pan ?_
    | (show retQ ..; first | refine rt_ret ?_ | refine rt_normal ?_)
    | refine rs_some ?_)
    all_goals rfl
  | false =>
    rw [hh] at hat
    have hf : findO w id = (Ob.zero, false) := by unfold findO; rw [if_neg (by rw [hh]; simp)]
    rw [hf]
    clear hh hf
    refine pureI (by kernel_rfl) (by simp only [go_sem, *]) (by simp only [go_sem, *]) Try.func11 Try.results11 rfl (by simp [Try.ntmps11]) (by kernel_rfl) ?_
    repeat' (first
    | (show pwOps ..; first | refine pops_nil ?_ | refine pops_n rfl ?_ | refine pops_w' rfl rfl ?_)
    | (show runGo ..; first | refine run_ev rfl rfl ?_ | refine run_call rfl ?_)
    | (show goOn ..; first | refine on_nop ?_ | refine on_new ?_ | refine on_put ?_ | refine on_born ?_ | refine on_grow ?_)
    | (show putGo ..; refine put_box ?_)
    | (show callGo ..; (refine call_pure (r := ?_) ?_ ?_; rotate_left 1; (focus first | exact obj_objects _ | exact hat)))
    | (show wGo ..; first | refine gw_tt ?_ | refine gw_ff ?_ | refine gw_tf ?_ | refine gw_ft ?_ | refine gw_u ?_ | refine gw_tn (fun _ => ?_) (fun _ => ?_) | refine gw_fn (fun _ => ?_) (fun _ => ?_) | refine gw_tb (fun _ => ?_) (fun _ => ?_) | refine gw_fb (fun _ => ?_) (fun _ => ?_))
    | (show dr ..; first | refine dr_nil ?_ | refine dr_n rfl ?_ | refine dr_w' rfl rfl ?_)
    | (show drGo ..; first | refine dr_ev rfl ?_ | refine dr_call rfl ?_)
    | (show drOn ..; first | refine dn_nop ?_ | refine dn_new ?_ | refine dn_put ?_ | refine dn_born ?_ | refine dn_grow ?_)
    | (show dputGo ..; refine dput_box ?_)
    | (show dcallGo ..; (refine dcall_pure (r := ?_) ?_ ?_; rotate_left 1; (focus first | exact obj_objects _ | exact hat)))
    | (refine And.intro (by kernel_rfl : okAll _ = true) ?_)
    | (show pwCode ..; first | refine pc_seq ?_ | refine pc_region ?_ | refine pc_draw (by kernel_rfl) ?_ | refine pc_ret ?_ | refine pc_skip ?_ | refine pc_block ?_ | refine pc_exit ?_ | refine pc_cond ?_)
    | (show condGo ..; first | refine cd_t ?_ | refine cd_f ?_ | refine cd_n (fun _ => ?_) (fun _ => ?_) | refine cd_b (fun _ => ?_) (fun _ => ?_))
    | refine th_normal ?_
    | refine th_ret ?_
    | refine th_exit ?_
    | refine th_pan ?_
    | refine bl_normal ?_
    | refine bl_exit ?_
    | refine bl_pass rfl ?_
    | refine bl_ret ?_
    | refine bl_pan ?_
    | (show retQ ..; first | refine rt_ret ?_ | refine rt_normal ?_)
    | refine rs_some ?_)
    all_goals rfl
def withL (l : List Ob) (x : Ob) : List Ob := if hitO l x.id = true then l.set (posO l x.id) x else l.take (posO l x.id) ++ x :: l.drop (posO l x.id)
def withoutL (l : List Ob) (id : Int) : List Ob := if hitO l id = true then l.eraseIdx (posO l id) else l
def putW (w : Wd) (o : Ob) : Wd := if decide (((withL w.objects o).length : Int) ≤ 1024) = true then { w with objects := withL w.objects o } else w
def dropW (w : Wd) (id : Int) : Wd := { w with objects := withoutL w.objects id }
end Go.Proofs.Yteibeoipnjhicaa
