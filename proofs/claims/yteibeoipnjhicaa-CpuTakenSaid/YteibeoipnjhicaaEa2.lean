import Derived.Test.YteibeoipnjhicaaEa1
namespace Go.Proofs.Yteibeoipnjhicaa
open Go Go.RowKit
set_option linter.unusedVariables false
set_option linter.unusedSimpArgs false
set_option maxHeartbeats 4000000
set_option maxRecDepth 100000
attribute [local irreducible] pwOps dr pwCode Ex.then Ex.inBlock retQ okAll drawOk Pure CSat evOp calleeP rdOf upd hset strip sp0 cut envL heapL Again Keep BdL evBs AgainK KeepK
theorem eq_no {α : Type} [DecidableEq α] {l k : List α} {n : Nat} {x y : α} (hx : l[n]? = some x) (hy : k[n]? = some y) (h : x ≠ y) : decide (l = k) = false := decide_eq_false fun e => by
  subst e; rw [hx] at hy; exact h (Option.some.inj hy)
theorem eq_yes {α : Type} [DecidableEq α] {l k : List α} {n : Nat} (hl : l.length = k.length) (hn : l.length ≤ n) (h : l.take n = k.take n) : decide (l = k) = true := by
  rw [List.take_of_length_le hn, List.take_of_length_le (by omega)] at h
  exact decide_eq_true h
theorem eq_len {α : Type} [DecidableEq α] {l k : List α} (hl : ¬ l.length = k.length) : decide (l = k) = false := decide_eq_false fun e => hl (by rw [e])
theorem eq_step {α : Type} {l k : List α} {n : Nat} {x : α} (hx : l[n]? = some x) (hy : k[n]? = some x) (h : l.take n = k.take n) : l.take (n + 1) = k.take (n + 1) := by rw [take_snoc hx, take_snoc hy, h]

theorem r2_same (l k : List Pr) (hl : l.length ≤ 9223372036854775807) : Pure Try.prog 9 [.sl (l.map Pr.enc), .sl (k.map Pr.enc)] (.bool (decide (l = k))) := by
  refine pureI (by kernel_rfl) (by simp only [go_sem, *]) (by simp only [go_sem, *]) Try.func9 Try.results9 rfl (by simp [Try.ntmps9]) (by kernel_rfl) ?_
  by_cases hlen : l.length = k.length
  · repeat' (first
    | (show pwOps ..; first | refine pops_nil ?_ | refine pops_n rfl ?_ | refine pops_w' rfl rfl ?_)
    | (show runGo ..; first | refine run_ev rfl rfl ?_ | refine run_call rfl ?_)
    | (show goOn ..; first | refine on_nop ?_ | refine on_new ?_ | refine on_put ?_ | refine on_born ?_ | refine on_grow ?_)
    | (show putGo ..; refine put_box ?_)
    | (show wGo ..; first | refine gw_tt ?_ | refine gw_ff ?_ | refine gw_tf ?_ | refine gw_ft ?_ | refine gw_u ?_ | refine gw_tn (fun _ => ?_) (fun _ => ?_) | refine gw_fn (fun _ => ?_) (fun _ => ?_) | refine gw_tb (fun _ => ?_) (fun _ => ?_) | refine gw_fb (fun _ => ?_) (fun _ => ?_))
    | (show dr ..; first | refine dr_nil ?_ | refine dr_n rfl ?_ | refine dr_w' rfl rfl ?_)
    | (show drGo ..; first | refine dr_ev rfl ?_ | refine dr_call rfl ?_)
    | (show drOn ..; first | refine dn_nop ?_ | refine dn_new ?_ | refine dn_put ?_ | refine dn_born ?_ | refine dn_grow ?_)
    | (show dputGo ..; refine dput_box ?_)
    | (refine And.intro (by kernel_rfl : okAll _ = true) ?_)
    | (show pwCode ..; first | refine pc_seq ?_ | refine pc_region ?_ | refine pc_draw (by kernel_rfl) ?_ | refine pc_ret ?_ | refine pc_skip ?_ | refine pc_block ?_ | refine pc_exit ?_ | refine pc_cond ?_)
    | (show condGo ..; first | refine cd_t ?_ | refine cd_f ?_ | refine cd_n (fun _ => ?_) (fun _ => ?_) | refine cd_b (fun _ => ?_) (fun _ => ?_))
    | refine th_normal ?_
    | refine th_ret ?_
    | refine th_exit ?_
    | refine th_pan ?_
    | refine bl_normal ?_
    | refine bl_exit ?_
    | refine bl_pass rfl ?_
    | refine bl_ret ?_
    | refine bl_pan ?_
    | (show retQ ..; first | refine rt_ret ?_ | refine rt_normal ?_)
    | refine rs_some ?_)
    refine pc_loop (S := Nat) (fun n => l.length - n) (fun n => n ≤ l.length ∧ l.take n = k.take n) (fun n => [(0, .sl (l.map Pr.enc)), (1, .sl (k.map Pr.enc)), (5, .int .i64 n)]) (fun _ => []) (fun _ => 0) 0 ⟨Nat.zero_le _, rfl⟩ (by (refine keepI ?_ ?_ <;> repeat' (first | exact ke_nil | exact kg_nil | refine ke_cons (by (try simp only [go_sem, *]); try rfl) (by simp only [go_sem, *]) ?_ | refine kg_box (by (try simp only [go_sem, *]); try rfl) (by omega) (by simp only [go_sem, *]) ?_ | refine kg_row (by (try simp only [go_sem, *]); try rfl) (by omega) (by simp only [go_sem, *]) ?_))) ?_
    rintro n ⟨hn, hs⟩
    rcases Nat.lt_or_ge n l.length with hlt | hge
    · obtain ⟨x, hx⟩ := lt_len hlt
      obtain ⟨y, hy⟩ := lt_len (hlen ▸ hlt : n < k.length)
      have h0 := lt_true (hlen ▸ hlt : n < k.length)
      have h4 := wrap_nat n (by omega)
      by_cases hxy : x = y
      · subst hxy
        repeat' (first
    | (show pwOps ..; first | refine pops_nil ?_ | refine pops_n rfl ?_ | refine pops_w' rfl rfl ?_)
    | (show runGo ..; first | refine run_ev rfl rfl ?_ | refine run_call rfl ?_)
    | (show goOn ..; first | refine on_nop ?_ | refine on_new ?_ | refine on_put ?_ | refine on_born ?_ | refine on_grow ?_)
    | (show putGo ..; refine put_box ?_)
    | (show wGo ..; first | refine gw_tt ?_ | refine gw_ff ?_ | refine gw_tf ?_ | refine gw_ft ?_ | refine gw_u ?_ | refine gw_tn (fun _ => ?_) (fun _ => ?_) | refine gw_fn (fun _ => ?_) (fun _ => ?_) | refine gw_tb (fun _ => ?_) (fun _ => ?_) | refine gw_fb (fun _ => ?_) (fun _ => ?_))
    | (show dr ..; first | refine dr_nil ?_ | refine dr_n rfl ?_ | refine dr_w' rfl rfl ?_)
    | (show drGo ..; first | refine dr_ev rfl ?_ | refine dr_call rfl ?_)
    | (show drOn ..; first | refine dn_nop ?_ | refine dn_new ?_ | refine dn_put ?_ | refine dn_born ?_ | refine dn_grow ?_)
    | (show dputGo ..; refine dput_box ?_)
    | (refine And.intro (by kernel_rfl : okAll _ = true) ?_)
    | (show pwCode ..; first | refine pc_seq ?_ | refine pc_region ?_ | refine pc_draw (by kernel_rfl) ?_ | refine pc_ret ?_ | refine pc_skip ?_ | refine pc_block ?_ | refine pc_exit ?_ | refine pc_cond ?_)
    | (show condGo ..; first | refine cd_t ?_ | refine cd_f ?_ | refine cd_n (fun _ => ?_) (fun _ => ?_) | refine cd_b (fun _ => ?_) (fun _ => ?_))
    | refine th_normal ?_
    | refine th_ret ?_
    | refine th_exit ?_
    | refine th_pan ?_
    | refine bl_normal ?_
    | refine bl_exit ?_
    | refine bl_pass rfl ?_
    | refine bl_ret ?_
    | refine bl_pan ?_
    | (show retQ ..; first | refine rt_ret ?_ | refine rt_normal ?_)
    | refine rs_some ?_)
        all_goals first
          | (rename_i hc; simp at hc; done)
          | (refine again (n + 1) ⟨by omega, eq_step hx hy hs⟩ (by omega) (by (refine keepI ?_ ?_ <;> repeat' (first | exact ke_nil | exact kg_nil | refine ke_cons (by (try simp only [go_sem, *]); try rfl) (by simp only [go_sem, *]) ?_ | refine kg_box (by (try simp only [go_sem, *]); try rfl) (by omega) (by simp only [go_sem, *]) ?_ | refine kg_row (by (try simp only [go_sem, *]); try rfl) (by omega) (by simp only [go_sem, *]) ?_))))
      · have hq : (x == y) = false := by simpa using hxy
        have hd : decide (x = y) = false := decide_eq_false hxy
        repeat' (first
    | (show pwOps ..; first | refine pops_nil ?_ | refine pops_n rfl ?_ | refine pops_w' rfl rfl ?_)
    | (show runGo ..; first | refine run_ev rfl rfl ?_ | refine run_call rfl ?_)
    | (show goOn ..; first | refine on_nop ?_ | refine on_new ?_ | refine on_put ?_ | refine on_born ?_ | refine on_grow ?_)
    | (show putGo ..; refine put_box ?_)
    | (show wGo ..; first | refine gw_tt ?_ | refine gw_ff ?_ | refine gw_tf ?_ | refine gw_ft ?_ | refine gw_u ?_ | refine gw_tn (fun _ => ?_) (fun _ => ?_) | refine gw_fn (fun _ => ?_) (fun _ => ?_) | refine gw_tb (fun _ => ?_) (fun _ => ?_) | refine gw_fb (fun _ => ?_) (fun _ => ?_))
    | (show dr ..; first | refine dr_nil ?_ | refine dr_n rfl ?_ | refine dr_w' rfl rfl ?_)
    | (show drGo ..; first | refine dr_ev rfl ?_ | refine dr_call rfl ?_)
    | (show drOn ..; first | refine dn_nop ?_ | refine dn_new ?_ | refine dn_put ?_ | refine dn_born ?_ | refine dn_grow ?_)
    | (show dputGo ..; refine dput_box ?_)
    | (refine And.intro (by kernel_rfl : okAll _ = true) ?_)
    | (show pwCode ..; first | refine pc_seq ?_ | refine pc_region ?_ | refine pc_draw (by kernel_rfl) ?_ | refine pc_ret ?_ | refine pc_skip ?_ | refine pc_block ?_ | refine pc_exit ?_ | refine pc_cond ?_)
    | (show condGo ..; first | refine cd_t ?_ | refine cd_f ?_ | refine cd_n (fun _ => ?_) (fun _ => ?_) | refine cd_b (fun _ => ?_) (fun _ => ?_))
    | refine th_normal ?_
    | refine th_ret ?_
    | refine th_exit ?_
    | refine th_pan ?_
    | refine bl_normal ?_
    | refine bl_exit ?_
    | refine bl_pass rfl ?_
    | refine bl_ret ?_
    | refine bl_pan ?_
    | (show retQ ..; first | refine rt_ret ?_ | refine rt_normal ?_)
    | refine rs_some ?_)
        all_goals exact ret_of (eq_no hx hy hxy).symm
    · have h0 := lt_false (by omega : k.length ≤ n)
      repeat' (first
    | (show pwOps ..; first | refine pops_nil ?_ | refine pops_n rfl ?_ | refine pops_w' rfl rfl ?_)
    | (show runGo ..; first | refine run_ev rfl rfl ?_ | refine run_call rfl ?_)
    | (show goOn ..; first | refine on_nop ?_ | refine on_new ?_ | refine on_put ?_ | refine on_born ?_ | refine on_grow ?_)
    | (show putGo ..; refine put_box ?_)
    | (show wGo ..; first | refine gw_tt ?_ | refine gw_ff ?_ | refine gw_tf ?_ | refine gw_ft ?_ | refine gw_u ?_ | refine gw_tn (fun _ => ?_) (fun _ => ?_) | refine gw_fn (fun _ => ?_) (fun _ => ?_) | refine gw_tb (fun _ => ?_) (fun _ => ?_) | refine gw_fb (fun _ => ?_) (fun _ => ?_))
    | (show dr ..; first | refine dr_nil ?_ | refine dr_n rfl ?_ | refine dr_w' rfl rfl ?_)
    | (show drGo ..; first | refine dr_ev rfl ?_ | refine dr_call rfl ?_)
    | (show drOn ..; first | refine dn_nop ?_ | refine dn_new ?_ | refine dn_put ?_ | refine dn_born ?_ | refine dn_grow ?_)
    | (show dputGo ..; refine dput_box ?_)
    | (refine And.intro (by kernel_rfl : okAll _ = true) ?_)
    | (show pwCode ..; first | refine pc_seq ?_ | refine pc_region ?_ | refine pc_draw (by kernel_rfl) ?_ | refine pc_ret ?_ | refine pc_skip ?_ | refine pc_block ?_ | refine pc_exit ?_ | refine pc_cond ?_)
    | (show condGo ..; first | refine cd_t ?_ | refine cd_f ?_ | refine cd_n (fun _ => ?_) (fun _ => ?_) | refine cd_b (fun _ => ?_) (fun _ => ?_))
    | refine th_normal ?_
    | refine th_ret ?_
    | refine th_exit ?_
    | refine th_pan ?_
    | refine bl_normal ?_
    | refine bl_exit ?_
    | refine bl_pass rfl ?_
    | refine bl_ret ?_
    | refine bl_pan ?_
    | (show retQ ..; first | refine rt_ret ?_ | refine rt_normal ?_)
    | refine rs_some ?_)
      exact ret_of (eq_yes hlen hge hs).symm
  · have hlen' : ((l.length : Int) == (k.length : Int)) = false := by simp; omega
    repeat' (first
    | (show pwOps ..; first | refine pops_nil ?_ | refine pops_n rfl ?_ | refine pops_w' rfl rfl ?_)
    | (show runGo ..; first | refine run_ev rfl rfl ?_ | refine run_call rfl ?_)
    | (show goOn ..; first | refine on_nop ?_ | refine on_new ?_ | refine on_put ?_ | refine on_born ?_ | refine on_grow ?_)
    | (show putGo ..; refine put_box ?_)
    | (show wGo ..; first | refine gw_tt ?_ | refine gw_ff ?_ | refine gw_tf ?_ | refine gw_ft ?_ | refine gw_u ?_ | refine gw_tn (fun _ => ?_) (fun _ => ?_) | refine gw_fn (fun _ => ?_) (fun _ => ?_) | refine gw_tb (fun _ => ?_) (fun _ => ?_) | refine gw_fb (fun _ => ?_) (fun _ => ?_))
    | (show dr ..; first | refine dr_nil ?_ | refine dr_n rfl ?_ | refine dr_w' rfl rfl ?_)
    | (show drGo ..; first | refine dr_ev rfl ?_ | refine dr_call rfl ?_)
    | (show drOn ..; first | refine dn_nop ?_ | refine dn_new ?_ | refine dn_put ?_ | refine dn_born ?_ | refine dn_grow ?_)
    | (show dputGo ..; refine dput_box ?_)
    | (refine And.intro (by kernel_rfl : okAll _ = true) ?_)
    | (show pwCode ..; first | refine pc_seq ?_ | refine pc_region ?_ | refine pc_draw (by kernel_rfl) ?_ | refine pc_ret ?_ | refine pc_skip ?_ | refine pc_block ?_ | refine pc_exit ?_ | refine pc_cond ?_)
    | (show condGo ..; first | refine cd_t ?_ | refine cd_f ?_ | refine cd_n (fun _ => ?_) (fun _ => ?_) | refine cd_b (fun _ => ?_) (fun _ => ?_))
    | refine th_normal ?_
    | refine th_ret ?_
    | refine th_exit ?_
    | refine th_pan ?_
    | refine bl_normal ?_
    | refine bl_exit ?_
    | refine bl_pass rfl ?_
    | refine bl_ret ?_
    | refine bl_pan ?_
    | (show retQ ..; first | refine rt_ret ?_ | refine rt_normal ?_)
    | refine rs_some ?_)
    exact ret_of (eq_len hlen).symm

theorem r2_cats (l k : List Int) (hl : l.length ≤ 9223372036854775807) : Pure Try.prog 10 [.sl (l.map u64), .sl (k.map u64)] (.bool (decide (l = k))) := by
  refine pureI (by kernel_rfl) (by simp only [go_sem, *]) (by simp only [go_sem, *]) Try.func10 Try.results10 rfl (by simp [Try.ntmps10]) (by kernel_rfl) ?_
  by_cases hlen : l.length = k.length
  · repeat' (first
    | (show pwOps ..; first | refine pops_nil ?_ | refine pops_n rfl ?_ | refine pops_w' rfl rfl ?_)
    | (show runGo ..; first | refine run_ev rfl rfl ?_ | refine run_call rfl ?_)
    | (show goOn ..; first | refine on_nop ?_ | refine on_new ?_ | refine on_put ?_ | refine on_born ?_ | refine on_grow ?_)
    | (show putGo ..; refine put_box ?_)
    | (show wGo ..; first | refine gw_tt ?_ | refine gw_ff ?_ | refine gw_tf ?_ | refine gw_ft ?_ | refine gw_u ?_ | refine gw_tn (fun _ => ?_) (fun _ => ?_) | refine gw_fn (fun _ => ?_) (fun _ => ?_) | refine gw_tb (fun _ => ?_) (fun _ => ?_) | refine gw_fb (fun _ => ?_) (fun _ => ?_))
    | (show dr ..; first | refine dr_nil ?_ | refine dr_n rfl ?_ | refine dr_w' rfl rfl ?_)
    | (show drGo ..; first | refine dr_ev rfl ?_ | refine dr_call rfl ?_)
    | (show drOn ..; first | refine dn_nop ?_ | refine dn_new ?_ | refine dn_put ?_ | refine dn_born ?_ | refine dn_grow ?_)
    | (show dputGo ..; refine dput_box ?_)
    | (refine And.intro (by kernel_rfl : okAll _ = true) ?_)
    | (show pwCode ..; first | refine pc_seq ?_ | refine pc_region ?_ | refine pc_draw (by kernel_rfl) ?_ | refine pc_ret ?_ | refine pc_skip ?_ | refine pc_block ?_ | refine pc_exit ?_ | refine pc_cond ?_)
    | (show condGo ..; first | refine cd_t ?_ | refine cd_f ?_ | refine cd_n (fun _ => ?_) (fun _ => ?_) | refine cd_b (fun _ => ?_) (fun _ => ?_))
    | refine th_normal ?_
    | refine th_ret ?_
    | refine th_exit ?_
    | refine th_pan ?_
    | refine bl_normal ?_
    | refine bl_exit ?_
    | refine bl_pass rfl ?_
    | refine bl_ret ?_
    | refine bl_pan ?_
    | (show retQ ..; first | refine rt_ret ?_ | refine rt_normal ?_)
    | refine rs_some ?_)
    refine pc_loop (S := Nat) (fun n => l.length - n) (fun n => n ≤ l.length ∧ l.take n = k.take n) (fun n => [(0, .sl (l.map u64)), (1, .sl (k.map u64)), (5, .int .i64 n)]) (fun _ => []) (fun _ => 0) 0 ⟨Nat.zero_le _, rfl⟩ (by (refine keepI ?_ ?_ <;> repeat' (first | exact ke_nil | exact kg_nil | refine ke_cons (by (try simp only [go_sem, *]); try rfl) (by simp only [go_sem, *]) ?_ | refine kg_box (by (try simp only [go_sem, *]); try rfl) (by omega) (by simp only [go_sem, *]) ?_ | refine kg_row (by (try simp only [go_sem, *]); try rfl) (by omega) (by simp only [go_sem, *]) ?_))) ?_
    rintro n ⟨hn, hs⟩
    rcases Nat.lt_or_ge n l.length with hlt | hge
    · obtain ⟨x, hx⟩ := lt_len hlt
      obtain ⟨y, hy⟩ := lt_len (hlen ▸ hlt : n < k.length)
      have h0 := lt_true (hlen ▸ hlt : n < k.length)
      have h4 := wrap_nat n (by omega)
      by_cases hxy : x = y
      · subst hxy
        repeat' (first
    | (show pwOps ..; first | refine pops_nil ?_ | refine pops_n rfl ?_ | refine pops_w' rfl rfl ?_)
    | (show runGo ..; first | refine run_ev rfl rfl ?_ | refine run_call rfl ?_)
    | (show goOn ..; first | refine on_nop ?_ | refine on_new ?_ | refine on_put ?_ | refine on_born ?_ | refine on_grow ?_)
    | (show putGo ..; refine put_box ?_)
    | (show wGo ..; first | refine gw_tt ?_ | refine gw_ff ?_ | refine gw_tf ?_ | refine gw_ft ?_ | refine gw_u ?_ | refine gw_tn (fun _ => ?_) (fun _ => ?_) | refine gw_fn (fun _ => ?_) (fun _ => ?_) | refine gw_tb (fun _ => ?_) (fun _ => ?_) | refine gw_fb (fun _ => ?_) (fun _ => ?_))
    | (show dr ..; first | refine dr_nil ?_ | refine dr_n rfl ?_ | refine dr_w' rfl rfl ?_)
    | (show drGo ..; first | refine dr_ev rfl ?_ | refine dr_call rfl ?_)
    | (show drOn ..; first | refine dn_nop ?_ | refine dn_new ?_ | refine dn_put ?_ | refine dn_born ?_ | refine dn_grow ?_)
    | (show dputGo ..; refine dput_box ?_)
    | (refine And.intro (by kernel_rfl : okAll _ = true) ?_)
    | (show pwCode ..; first | refine pc_seq ?_ | refine pc_region ?_ | refine pc_draw (by kernel_rfl) ?_ | refine pc_ret ?_ | refine pc_skip ?_ | refine pc_block ?_ | refine pc_exit ?_ | refine pc_cond ?_)
    | (show condGo ..; first | refine cd_t ?_ | refine cd_f ?_ | refine cd_n (fun _ => ?_) (fun _ => ?_) | refine cd_b (fun _ => ?_) (fun _ => ?_))
    | refine th_normal ?_
    | refine th_ret ?_
    | refine th_exit ?_
    | refine th_pan ?_
    | refine bl_normal ?_
    | refine bl_exit ?_
    | refine bl_pass rfl ?_
    | refine bl_ret ?_
    | refine bl_pan ?_
    | (show retQ ..; first | refine rt_ret ?_ | refine rt_normal ?_)
    | refine rs_some ?_)
        all_goals first
          | (rename_i hc; simp at hc; done)
          | (refine again (n + 1) ⟨by omega, eq_step hx hy hs⟩ (by omega) (by (refine keepI ?_ ?_ <;> repeat' (first | exact ke_nil | exact kg_nil | refine ke_cons (by (try simp only [go_sem, *]); try rfl) (by simp only [go_sem, *]) ?_ | refine kg_box (by (try simp only [go_sem, *]); try rfl) (by omega) (by simp only [go_sem, *]) ?_ | refine kg_row (by (try simp only [go_sem, *]); try rfl) (by omega) (by simp only [go_sem, *]) ?_))))
      · have hq : (x == y) = false := by simpa using hxy
        have hd : decide (x = y) = false := decide_eq_false hxy
        repeat' (first
    | (show pwOps ..; first | refine pops_nil ?_ | refine pops_n rfl ?_ | refine pops_w' rfl rfl ?_)
    | (show runGo ..; first | refine run_ev rfl rfl ?_ | refine run_call rfl ?_)
    | (show goOn ..; first | refine on_nop ?_ | refine on_new ?_ | refine on_put ?_ | refine on_born ?_ | refine on_grow ?_)
    | (show putGo ..; refine put_box ?_)
    | (show wGo ..; first | refine gw_tt ?_ | refine gw_ff ?_ | refine gw_tf ?_ | refine gw_ft ?_ | refine gw_u ?_ | refine gw_tn (fun _ => ?_) (fun _ => ?_) | refine gw_fn (fun _ => ?_) (fun _ => ?_) | refine gw_tb (fun _ => ?_) (fun _ => ?_) | refine gw_fb (fun _ => ?_) (fun _ => ?_))
    | (show dr ..; first | refine dr_nil ?_ | refine dr_n rfl ?_ | refine dr_w' rfl rfl ?_)
    | (show drGo ..; first | refine dr_ev rfl ?_ | refine dr_call rfl ?_)
    | (show drOn ..; first | refine dn_nop ?_ | refine dn_new ?_ | refine dn_put ?_ | refine dn_born ?_ | refine dn_grow ?_)
    | (show dputGo ..; refine dput_box ?_)
    | (refine And.intro (by kernel_rfl : okAll _ = true) ?_)
    | (show pwCode ..; first | refine pc_seq ?_ | refine pc_region ?_ | refine pc_draw (by kernel_rfl) ?_ | refine pc_ret ?_ | refine pc_skip ?_ | refine pc_block ?_ | refine pc_exit ?_ | refine pc_cond ?_)
    | (show condGo ..; first | refine cd_t ?_ | refine cd_f ?_ | refine cd_n (fun _ => ?_) (fun _ => ?_) | refine cd_b (fun _ => ?_) (fun _ => ?_))
    | refine th_normal ?_
    | refine th_ret ?_
    | refine th_exit ?_
    | refine th_pan ?_
    | refine bl_normal ?_
    | refine bl_exit ?_
    | refine bl_pass rfl ?_
    | refine bl_ret ?_
    | refine bl_pan ?_
    | (show retQ ..; first | refine rt_ret ?_ | refine rt_normal ?_)
    | refine rs_some ?_)
        all_goals exact ret_of (eq_no hx hy hxy).symm
    · have h0 := lt_false (by omega : k.length ≤ n)
      repeat' (first
    | (show pwOps ..; first | refine pops_nil ?_ | refine pops_n rfl ?_ | refine pops_w' rfl rfl ?_)
    | (show runGo ..; first | refine run_ev rfl rfl ?_ | refine run_call rfl ?_)
    | (show goOn ..; first | refine on_nop ?_ | refine on_new ?_ | refine on_put ?_ | refine on_born ?_ | refine on_grow ?_)
    | (show putGo ..; refine put_box ?_)
    | (show wGo ..; first | refine gw_tt ?_ | refine gw_ff ?_ | refine gw_tf ?_ | refine gw_ft ?_ | refine gw_u ?_ | refine gw_tn (fun _ => ?_) (fun _ => ?_) | refine gw_fn (fun _ => ?_) (fun _ => ?_) | refine gw_tb (fun _ => ?_) (fun _ => ?_) | refine gw_fb (fun _ => ?_) (fun _ => ?_))
    | (show dr ..; first | refine dr_nil ?_ | refine dr_n rfl ?_ | refine dr_w' rfl rfl ?_)
    | (show drGo ..; first | refine dr_ev rfl ?_ | refine dr_call rfl ?_)
    | (show drOn ..; first | refine dn_nop ?_ | refine dn_new ?_ | refine dn_put ?_ | refine dn_born ?_ | refine dn_grow ?_)
    | (show dputGo ..; refine dput_box ?_)
    | (refine And.intro (by kernel_rfl : okAll _ = true) ?_)
    | (show pwCode ..; first | refine pc_seq ?_ | refine pc_region ?_ | refine pc_draw (by kernel_rfl) ?_ | refine pc_ret ?_ | refine pc_skip ?_ | refine pc_block ?_ | refine pc_exit ?_ | refine pc_cond ?_)
    | (show condGo ..; first | refine cd_t ?_ | refine cd_f ?_ | refine cd_n (fun _ => ?_) (fun _ => ?_) | refine cd_b (fun _ => ?_) (fun _ => ?_))
    | refine th_normal ?_
    | refine th_ret ?_
    | refine th_exit ?_
    | refine th_pan ?_
    | refine bl_normal ?_
    | refine bl_exit ?_
    | refine bl_pass rfl ?_
    | refine bl_ret ?_
    | refine bl_pan ?_
    | (show retQ ..; first | refine rt_ret ?_ | refine rt_normal ?_)
    | refine rs_some ?_)
      exact ret_of (eq_yes hlen hge hs).symm
  · have hlen' : ((l.length : Int) == (k.length : Int)) = false := by simp; omega
    repeat' (first
    | (show pwOps ..; first | refine pops_nil ?_ | refine pops_n rfl ?_ | refine pops_w' rfl rfl ?_)
    | (show runGo ..; first | refine run_ev rfl rfl ?_ | refine run_call rfl ?_)
    | (show goOn ..; first | refine on_nop ?_ | refine on_new ?_ | refine on_put ?_ | refine on_born ?_ | refine on_grow ?_)
    | (show putGo ..; refine put_box ?_)
    | (show wGo ..; first | refine gw_tt ?_ | refine gw_ff ?_ | refine gw_tf ?_ | refine gw_ft ?_ | refine gw_u ?_ | refine gw_tn (fun _ => ?_) (fun _ => ?_) | refine gw_fn (fun _ => ?_) (fun _ => ?_) | refine gw_tb (fun _ => ?_) (fun _ => ?_) | refine gw_fb (fun _ => ?_) (fun _ => ?_))
    | (show dr ..; first | refine dr_nil ?_ | refine dr_n rfl ?_ | refine dr_w' rfl rfl ?_)
    | (show drGo ..; first | refine dr_ev rfl ?_ | refine dr_call rfl ?_)
    | (show drOn ..; first | refine dn_nop ?_ | refine dn_new ?_ | refine dn_put ?_ | refine dn_born ?_ | refine dn_grow ?_)
    | (show dputGo ..; refine dput_box ?_)
    | (refine And.intro (by kernel_rfl : okAll _ = true) ?_)
    | (show pwCode ..; first | refine pc_seq ?_ | refine pc_region ?_ | refine pc_draw (by kernel_rfl) ?_ | refine pc_ret ?_ | refine pc_skip ?_ | refine pc_block ?_ | refine pc_exit ?_ | refine pc_cond ?_)
    | (show condGo ..; first | refine cd_t ?_ | refine cd_f ?_ | refine cd_n (fun _ => ?_) (fun _ => ?_) | refine cd_b (fun _ => ?_) (fun _ => ?_))
    | refine th_normal ?_
    | refine th_ret ?_
    | refine th_exit ?_
    | refine th_pan ?_
    | refine bl_normal ?_
    | refine bl_exit ?_
    | refine bl_pass rfl ?_
    | refine bl_ret ?_
    | refine bl_pan ?_
    | (show retQ ..; first | refine rt_ret ?_ | refine rt_normal ?_)
    | refine rs_some ?_)
    exact ret_of (eq_len hlen).symm

end Go.Proofs.Yteibeoipnjhicaa
