import Derived.Test.YtggkjfllbfcagaaEa1
namespace Go.Proofs.Ytggkjfllbfcagaa
open Go Go.RowKit
set_option linter.unusedVariables false
set_option linter.unusedSimpArgs false
set_option maxHeartbeats 4000000
set_option maxRecDepth 100000
attribute [local irreducible] pwOps dr pwCode Ex.then Ex.inBlock retQ okAll drawOk Pure CSat evOp calleeP rdOf upd hset strip sp0 cut envL heapL Again Keep BdL evBs AgainK KeepK
def own (l : List Pr) : List Int := (l.filter (fun p => p.lev == 0)).map (·.cat)
theorem own_yes {l : List Pr} {n : Nat} {x : Pr} (hx : l[n]? = some x) (h : (x.lev == 0) = true) : own (l.take (n + 1)) = own (l.take n) ++ [x.cat] := by
  rw [take_snoc hx]; simp [own, List.filter_append, List.filter_cons, h]
theorem own_no {l : List Pr} {n : Nat} {x : Pr} (hx : l[n]? = some x) (h : (x.lev == 0) = false) : own (l.take (n + 1)) = own (l.take n) := by
  rw [take_snoc hx]; simp [own, List.filter_append, List.filter_cons, h]
theorem own_len (l : List Pr) : (own l).length ≤ l.length := by simp [own]; exact List.length_filter_le _ _
theorem r2_owned (l : List Pr) (hl : l.length ≤ 900000) : Pure Try.prog 110 [.sl (l.map Pr.enc)] (.sl ((own l).map u64)) := by
  refine pureI (by kernel_rfl) (by simp only [go_sem, *]) (by simp only [go_sem, *]) Try.func110 Try.results110 rfl (by simp [Try.ntmps110]) (by kernel_rfl) ?_
  repeat' (first
    | (show pwOps ..; first | refine pops_nil ?_ | refine pops_n rfl ?_ | refine pops_w' rfl rfl ?_)
    | (show runGo ..; first | refine run_ev rfl rfl ?_ | refine run_call rfl ?_)
    | (show goOn ..; first | refine on_nop ?_ | refine on_new ?_ | refine on_put ?_ | refine on_born ?_ | refine on_grow ?_)
    | (show putGo ..; refine put_box ?_)
    | (show wGo ..; first | refine gw_tt ?_ | refine gw_ff ?_ | refine gw_tf ?_ | refine gw_ft ?_ | refine gw_u ?_ | refine gw_tn (fun _ => ?_) (fun _ => ?_) | refine gw_fn (fun _ => ?_) (fun _ => ?_) | refine gw_tb (fun _ => ?_) (fun _ => ?_) | refine gw_fb (fun _ => ?_) (fun _ => ?_))
    | (show dr ..; first | refine dr_nil ?_ | refine dr_n rfl ?_ | refine dr_w' rfl rfl ?_)
    | (show drGo ..; first | refine dr_ev rfl ?_ | refine dr_call rfl ?_)
    | (show drOn ..; first | refine dn_nop ?_ | refine dn_new ?_ | refine dn_put ?_ | refine dn_born ?_ | refine dn_grow ?_)
    | (show dputGo ..; refine dput_box ?_)
    | (refine And.intro (by kernel_rfl : okAll _ = true) ?_)
    | (show pwCode ..; first | refine pc_seq ?_ | refine pc_region ?_ | refine pc_draw (by kernel_rfl) ?_ | refine pc_ret ?_ | refine pc_skip ?_ | refine pc_block ?_ | refine pc_exit ?_ | refine pc_cond ?_)
    | (show condGo ..; first | refine cd_t ?_ | refine cd_f ?_ | refine cd_n (fun _ => ?_) (fun _ => ?_) | refine cd_b (fun _ => ?_) (fun _ => ?_))
    | refine th_normal ?_
    | refine th_ret ?_
    | refine th_exit ?_
    | refine th_pan ?_
    | refine bl_normal ?_
    | refine bl_exit ?_
    | refine bl_pass rfl ?_
    | refine bl_ret ?_
    | refine bl_pan ?_
    | (show retQ ..; first | refine rt_ret ?_ | refine rt_normal ?_)
    | refine rs_some ?_)
  refine pc_loop (S := Nat × List Int × Nat) (fun s => l.length - s.1) (fun s => s.1 ≤ l.length ∧ own (l.take s.1) = s.2.1) (fun s => [(0, .sl (l.map Pr.enc)), (3, accV s.2.2 s.2.1), (4, .int .i64 s.1)]) (fun s => accG s.2.2 22 1 u64 s.2.1) (fun s => accM 0 s.2.2 s.2.1) (0, [], 0) ⟨Nat.zero_le _, rfl⟩ (by simp only [accV_nil, accG_nil, accM_nil]; (refine keepI ?_ ?_ <;> repeat' (first | exact ke_nil | exact kg_nil | refine ke_cons (by (try simp only [go_sem, *]); try rfl) (by simp only [go_sem, *]) ?_ | refine kg_box (by (try simp only [go_sem, *]); try rfl) (by omega) (by simp only [go_sem, *]) ?_ | refine kg_row (by (try simp only [go_sem, *]); try rfl) (by omega) (by simp only [go_sem, *]) ?_))) ?_
  rintro ⟨n, acc, id⟩ ⟨hn, hs⟩
  simp only at hn hs
  have ha : acc.length < 1000000 := by rw [← hs]; have := own_len (l.take n); have := List.length_take_le n l; simp only [List.length_take] at *; omega
  have hb1 := app_max ha
  have hb2 := app_by (b := 8) ha (by decide)
  rcases Nat.lt_or_ge n l.length with hlt | hge
  · obtain ⟨x, hx⟩ := lt_len hlt
    have h0 := lt_true hlt
    have h4 := wrap_nat n (by omega)
    rcases or_nil acc with hnil | hne
    · subst hnil
      simp only [accV_nil, accG_nil, accM_nil]
      repeat' (first
    | (show pwOps ..; first | refine pops_nil ?_ | refine pops_n rfl ?_ | refine pops_w' rfl rfl ?_)
    | (show runGo ..; first | refine run_ev rfl rfl ?_ | refine run_call rfl ?_)
    | (show goOn ..; first | refine on_nop ?_ | refine on_new ?_ | refine on_put ?_ | refine on_born ?_ | refine on_grow ?_)
    | (show putGo ..; refine put_box ?_)
    | (show wGo ..; first | refine gw_tt ?_ | refine gw_ff ?_ | refine gw_tf ?_ | refine gw_ft ?_ | refine gw_u ?_ | refine gw_tn (fun _ => ?_) (fun _ => ?_) | refine gw_fn (fun _ => ?_) (fun _ => ?_) | refine gw_tb (fun _ => ?_) (fun _ => ?_) | refine gw_fb (fun _ => ?_) (fun _ => ?_))
    | (show dr ..; first | refine dr_nil ?_ | refine dr_n rfl ?_ | refine dr_w' rfl rfl ?_)
    | (show drGo ..; first | refine dr_ev rfl ?_ | refine dr_call rfl ?_)
    | (show drOn ..; first | refine dn_nop ?_ | refine dn_new ?_ | refine dn_put ?_ | refine dn_born ?_ | refine dn_grow ?_)
    | (show dputGo ..; refine dput_box ?_)
    | (refine And.intro (by kernel_rfl : okAll _ = true) ?_)
    | (show pwCode ..; first | refine pc_seq ?_ | refine pc_region ?_ | refine pc_draw (by kernel_rfl) ?_ | refine pc_ret ?_ | refine pc_skip ?_ | refine pc_block ?_ | refine pc_exit ?_ | refine pc_cond ?_)
    | (show condGo ..; first | refine cd_t ?_ | refine cd_f ?_ | refine cd_n (fun _ => ?_) (fun _ => ?_) | refine cd_b (fun _ => ?_) (fun _ => ?_))
    | refine th_normal ?_
    | refine th_ret ?_
    | refine th_exit ?_
    | refine th_pan ?_
    | refine bl_normal ?_
    | refine bl_exit ?_
    | refine bl_pass rfl ?_
    | refine bl_ret ?_
    | refine bl_pan ?_
    | (show retQ ..; first | refine rt_ret ?_ | refine rt_normal ?_)
    | refine rs_some ?_)
      all_goals rename_i hc
      · refine again (n + 1, [] ++ [x.cat], 0) ⟨hlt, by rw [own_yes hx hc, hs]⟩ (by simp only; omega) ?_
        simp only [accV_snoc, accG_snoc, accM_snoc]
        (refine keepI ?_ ?_ <;> repeat' (first | exact ke_nil | exact kg_nil | refine ke_cons (by (try simp only [go_sem, *]); try rfl) (by simp only [go_sem, *]) ?_ | refine kg_box (by (try simp only [go_sem, *]); try rfl) (by omega) (by simp only [go_sem, *]) ?_ | refine kg_row (by (try simp only [go_sem, *]); try rfl) (by omega) (by simp only [go_sem, *]) ?_))
      · refine again (n + 1, [], 0) ⟨hlt, by rw [own_no hx hc, hs]⟩ (by simp only; omega) ?_
        simp only [accV_nil, accG_nil, accM_nil]
        (refine keepI ?_ ?_ <;> repeat' (first | exact ke_nil | exact kg_nil | refine ke_cons (by (try simp only [go_sem, *]); try rfl) (by simp only [go_sem, *]) ?_ | refine kg_box (by (try simp only [go_sem, *]); try rfl) (by omega) (by simp only [go_sem, *]) ?_ | refine kg_row (by (try simp only [go_sem, *]); try rfl) (by omega) (by simp only [go_sem, *]) ?_))
    · simp only [accV_ne hne, accG_ne hne, accM_ne hne]
      repeat' (first
    | (show pwOps ..; first | refine pops_nil ?_ | refine pops_n rfl ?_ | refine pops_w' rfl rfl ?_)
    | (show runGo ..; first | refine run_ev rfl rfl ?_ | refine run_call rfl ?_)
    | (show goOn ..; first | refine on_nop ?_ | refine on_new ?_ | refine on_put ?_ | refine on_born ?_ | refine on_grow ?_)
    | (show putGo ..; refine put_box ?_)
    | (show wGo ..; first | refine gw_tt ?_ | refine gw_ff ?_ | refine gw_tf ?_ | refine gw_ft ?_ | refine gw_u ?_ | refine gw_tn (fun _ => ?_) (fun _ => ?_) | refine gw_fn (fun _ => ?_) (fun _ => ?_) | refine gw_tb (fun _ => ?_) (fun _ => ?_) | refine gw_fb (fun _ => ?_) (fun _ => ?_))
    | (show dr ..; first | refine dr_nil ?_ | refine dr_n rfl ?_ | refine dr_w' rfl rfl ?_)
    | (show drGo ..; first | refine dr_ev rfl ?_ | refine dr_call rfl ?_)
    | (show drOn ..; first | refine dn_nop ?_ | refine dn_new ?_ | refine dn_put ?_ | refine dn_born ?_ | refine dn_grow ?_)
    | (show dputGo ..; refine dput_box ?_)
    | (refine And.intro (by kernel_rfl : okAll _ = true) ?_)
    | (show pwCode ..; first | refine pc_seq ?_ | refine pc_region ?_ | refine pc_draw (by kernel_rfl) ?_ | refine pc_ret ?_ | refine pc_skip ?_ | refine pc_block ?_ | refine pc_exit ?_ | refine pc_cond ?_)
    | (show condGo ..; first | refine cd_t ?_ | refine cd_f ?_ | refine cd_n (fun _ => ?_) (fun _ => ?_) | refine cd_b (fun _ => ?_) (fun _ => ?_))
    | refine th_normal ?_
    | refine th_ret ?_
    | refine th_exit ?_
    | refine th_pan ?_
    | refine bl_normal ?_
    | refine bl_exit ?_
    | refine bl_pass rfl ?_
    | refine bl_ret ?_
    | refine bl_pan ?_
    | (show retQ ..; first | refine rt_ret ?_ | refine rt_normal ?_)
    | refine rs_some ?_)
      all_goals rename_i hc
      · refine again (n + 1, acc ++ [x.cat], id) ⟨hlt, by rw [own_yes hx hc, hs]⟩ (by simp only; omega) ?_
        simp only [accV_snoc, accG_snoc, accM_snoc]
        (refine keepI ?_ ?_ <;> repeat' (first | exact ke_nil | exact kg_nil | refine ke_cons (by (try simp only [go_sem, *]); try rfl) (by simp only [go_sem, *]) ?_ | refine kg_box (by (try simp only [go_sem, *]); try rfl) (by omega) (by simp only [go_sem, *]) ?_ | refine kg_row (by (try simp only [go_sem, *]); try rfl) (by omega) (by simp only [go_sem, *]) ?_))
      · refine again (n + 1, acc, id) ⟨hlt, by rw [own_no hx hc, hs]⟩ (by simp only; omega) ?_
        simp only [accV_ne hne, accG_ne hne, accM_ne hne]
        (refine keepI ?_ ?_ <;> repeat' (first | exact ke_nil | exact kg_nil | refine ke_cons (by (try simp only [go_sem, *]); try rfl) (by simp only [go_sem, *]) ?_ | refine kg_box (by (try simp only [go_sem, *]); try rfl) (by omega) (by simp only [go_sem, *]) ?_ | refine kg_row (by (try simp only [go_sem, *]); try rfl) (by omega) (by simp only [go_sem, *]) ?_))
  · have h0 := lt_false hge
    have hs' : own l = acc := by rw [← hs, List.take_of_length_le hge]
    rcases or_nil acc with hnil | hne
    · subst hnil
      simp only [accV_nil, accG_nil, accM_nil]
      repeat' (first
    | (show pwOps ..; first | refine pops_nil ?_ | refine pops_n rfl ?_ | refine pops_w' rfl rfl ?_)
    | (show runGo ..; first | refine run_ev rfl rfl ?_ | refine run_call rfl ?_)
    | (show goOn ..; first | refine on_nop ?_ | refine on_new ?_ | refine on_put ?_ | refine on_born ?_ | refine on_grow ?_)
    | (show putGo ..; refine put_box ?_)
    | (show wGo ..; first | refine gw_tt ?_ | refine gw_ff ?_ | refine gw_tf ?_ | refine gw_ft ?_ | refine gw_u ?_ | refine gw_tn (fun _ => ?_) (fun _ => ?_) | refine gw_fn (fun _ => ?_) (fun _ => ?_) | refine gw_tb (fun _ => ?_) (fun _ => ?_) | refine gw_fb (fun _ => ?_) (fun _ => ?_))
    | (show dr ..; first | refine dr_nil ?_ | refine dr_n rfl ?_ | refine dr_w' rfl rfl ?_)
    | (show drGo ..; first | refine dr_ev rfl ?_ | refine dr_call rfl ?_)
    | (show drOn ..; first | refine dn_nop ?_ | refine dn_new ?_ | refine dn_put ?_ | refine dn_born ?_ | refine dn_grow ?_)
    | (show dputGo ..; refine dput_box ?_)
    | (refine And.intro (by kernel_rfl : okAll _ = true) ?_)
    | (show pwCode ..; first | refine pc_seq ?_ | refine pc_region ?_ | refine pc_draw (by kernel_rfl) ?_ | refine pc_ret ?_ | refine pc_skip ?_ | refine pc_block ?_ | refine pc_exit ?_ | refine pc_cond ?_)
    | (show condGo ..; first | refine cd_t ?_ | refine cd_f ?_ | refine cd_n (fun _ => ?_) (fun _ => ?_) | refine cd_b (fun _ => ?_) (fun _ => ?_))
    | refine th_normal ?_
    | refine th_ret ?_
    | refine th_exit ?_
    | refine th_pan ?_
    | refine bl_normal ?_
    | refine bl_exit ?_
    | refine bl_pass rfl ?_
    | refine bl_ret ?_
    | refine bl_pan ?_
    | (show retQ ..; first | refine rt_ret ?_ | refine rt_normal ?_)
    | refine rs_some ?_)
      rw [hs']; rfl
    · simp only [accV_ne hne, accG_ne hne, accM_ne hne]
      repeat' (first
    | (show pwOps ..; first | refine pops_nil ?_ | refine pops_n rfl ?_ | refine pops_w' rfl rfl ?_)
    | (show runGo ..; first | refine run_ev rfl rfl ?_ | refine run_call rfl ?_)
    | (show goOn ..; first | refine on_nop ?_ | refine on_new ?_ | refine on_put ?_ | refine on_born ?_ | refine on_grow ?_)
    | (show putGo ..; refine put_box ?_)
    | (show wGo ..; first | refine gw_tt ?_ | refine gw_ff ?_ | refine gw_tf ?_ | refine gw_ft ?_ | refine gw_u ?_ | refine gw_tn (fun _ => ?_) (fun _ => ?_) | refine gw_fn (fun _ => ?_) (fun _ => ?_) | refine gw_tb (fun _ => ?_) (fun _ => ?_) | refine gw_fb (fun _ => ?_) (fun _ => ?_))
    | (show dr ..; first | refine dr_nil ?_ | refine dr_n rfl ?_ | refine dr_w' rfl rfl ?_)
    | (show drGo ..; first | refine dr_ev rfl ?_ | refine dr_call rfl ?_)
    | (show drOn ..; first | refine dn_nop ?_ | refine dn_new ?_ | refine dn_put ?_ | refine dn_born ?_ | refine dn_grow ?_)
    | (show dputGo ..; refine dput_box ?_)
    | (refine And.intro (by kernel_rfl : okAll _ = true) ?_)
    | (show pwCode ..; first | refine pc_seq ?_ | refine pc_region ?_ | refine pc_draw (by kernel_rfl) ?_ | refine pc_ret ?_ | refine pc_skip ?_ | refine pc_block ?_ | refine pc_exit ?_ | refine pc_cond ?_)
    | (show condGo ..; first | refine cd_t ?_ | refine cd_f ?_ | refine cd_n (fun _ => ?_) (fun _ => ?_) | refine cd_b (fun _ => ?_) (fun _ => ?_))
    | refine th_normal ?_
    | refine th_ret ?_
    | refine th_exit ?_
    | refine th_pan ?_
    | refine bl_normal ?_
    | refine bl_exit ?_
    | refine bl_pass rfl ?_
    | refine bl_ret ?_
    | refine bl_pan ?_
    | (show retQ ..; first | refine rt_ret ?_ | refine rt_normal ?_)
    | refine rs_some ?_)
      rw [hs']
end Go.Proofs.Ytggkjfllbfcagaa
