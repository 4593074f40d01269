import Derived.Test.YtggkjfllbfcagaaEr4
namespace Go.Proofs.Ytggkjfllbfcagaa
open Go Go.RowKit
set_option linter.unusedVariables false
set_option linter.unusedSimpArgs false
set_option maxHeartbeats 16000000
set_option maxRecDepth 100000
theorem fit_wd {w : Wd} (h : fitW w = true) : wdFit w = true := by
  unfold fitW at h
  simp only [Bool.and_eq_true] at h
  exact h.1.1
theorem thr_fit {t : Ob} (h : thrR t = true) : labFit t.label = true ∧ t.label.length ≤ 20 := by
  unfold thrR at h
  simp only [Bool.and_eq_true, decide_eq_true_eq] at h
  exact ⟨sound_fit h.2.2, by omega⟩
theorem one_self {a : Ob} (ha : a.L) : Pure Try.prog 35 [.agg (Ob.enc a), .agg (Ob.enc a)] (.bool true) := by
  have := r13_sameOne a a ha
  rw [sameOb_refl] at this; exact this
theorem zeroObL : Ob.zero.L := ⟨by decide, by decide, by decide, by decide, Th.zeroL, Gt.zeroL, by decide, by decide⟩
theorem findR_Lw {w : Wd} (h : w.L) (id : Int) : (findR w id).1.L := by
  unfold findR
  split
  · rename_i x hx; exact (h.2 x (List.mem_of_find?_eq_some hx)).1
  · exact zeroObL
theorem dirR_L {w : Wd} (h : w.L) (t : Ob) (id : Int) (b : Bool) : (dirR w t id b).1.L := by
  unfold dirR
  split
  · split
    · exact findR_Lw h _
    · exact zeroObL
  · exact zeroObL
theorem lookR_L {w : Wd} (h : w.L) (t : Ob) (r : Rf) : (lookR w t r).1.L := by
  unfold lookR
  split
  · split
    · exact findR_Lw h _
    · exact zeroObL
  · exact zeroObL
theorem seeR_L {w : Wd} (h : w.L) (t : Ob) (r : Rf) (k : Int) : (seeR w t r k).1.L := by
  unfold seeR
  split
  · split
    · split
      · exact lookR_L h _ _
      · exact zeroObL
    · exact zeroObL
  · exact zeroObL
theorem changeR_L {w : Wd} (h : w.L) (t : Ob) (r : Rf) (k : Int) : (changeR w t r k).1.L := by
  unfold changeR
  split
  · split
    · exact seeR_L h _ _ _
    · exact zeroObL
  · exact zeroObL
def ex17w : Wd := { Wd.zero with root := 1, objects := [{ Ob.zero with id := 1, kind := 2, quota := 3 }] }
def ex17t : Ob := { Ob.zero with id := 9, kind := 4, quota := 1, label := [⟨7, 4⟩], thread := { Th.zero with clear := [⟨7, 4⟩] } }
theorem ex17_few : FewW ex17w := ⟨by decide, fun x hx => by simp only [ex17w, List.mem_singleton] at hx; subst hx; decide⟩
theorem ex17_fit : wdFit ex17w = true := by decide +kernel
theorem ex17_lab : labFit ex17t.label = true := by decide +kernel
theorem ex17_len : ex17t.label.length ≤ 20 := by decide
@[go_sem] theorem ex17_b1 (r : Int) (o : Ob) : evBuild Try.prog 62 [(2, .int .u64 r), (3, .sl [Ob.enc o])] = some (.agg (Wd.enc ⟨0, 0, r, [o]⟩)) := by kernel_rfl
@[go_sem] theorem ex17_b2 (p : Pr) : evBuild Try.prog 36 [(2, .sl [Pr.enc p])] = some (.agg (Th.enc { Th.zero with clear := [p] })) := by kernel_rfl
@[go_sem] theorem ex17_b3 (id kind quota : Int) (p : Pr) (th : Th) : evBuild Try.prog 40 [(0, .int .u64 id), (1, .int .i64 kind), (3, .int .i64 quota), (2, .sl [Pr.enc p]), (8, .agg (Th.enc th))] = some (.agg (Ob.enc ⟨id, kind, [p], quota, false, [], [], [], th, Gt.zero, [], []⟩)) := by kernel_rfl
@[go_sem] theorem ex17_b4 (a b : Int) : evBuild Try.prog 29 [(0, .int .u64 a), (1, .int .u64 b)] = some (.agg (Rf.enc ⟨a, b⟩)) := by kernel_rfl
attribute [local irreducible] pwOps dr pwCode Ex.then Ex.inBlock retQ okAll drawOk Pure CSat evOp calleeP rdOf upd hset strip sp0 cut envL heapL Again Keep BdL evBs AgainK KeepK
theorem law17_awake : Pure Try.prog 26 [] (.bool true) := by
  have h1 := reach_look ex17w ex17t ⟨1, 2⟩ ex17_few ex17_fit ex17_lab ex17_len
  have h2 := reach_dir ex17w ex17t 1 true ex17_few ex17_fit ex17_lab ex17_len
  have h3 := reach_dir ex17w ex17t 1 false ex17_few ex17_fit ex17_lab ex17_len
  have e1 : lookR ex17w ex17t ⟨1, 2⟩ = (Ob.zero, 1) := by rfl
  have e2 : dirR ex17w ex17t 1 true = (Ob.zero, 2) := by rfl
  have e3 : dirR ex17w ex17t 1 false = ({ Ob.zero with id := 1, kind := 2, quota := 3 }, 0) := by rfl
  rw [e1] at h1
  rw [e2] at h2
  rw [e3] at h3
  clear e1 e2 e3
  unfold ex17w ex17t at h1 h2 h3
  refine pureI (by kernel_rfl) (by simp only [go_sem, *]) (by simp only [go_sem, *]) Try.func26 Try.results26 rfl (by simp [Try.ntmps26]) (by kernel_rfl) ?_
  repeat' (first
    | (show pwOps ..; first | refine pops_nil ?_ | refine pops_n rfl ?_ | refine pops_w' rfl rfl ?_)
    | (show runGo ..; first | refine run_ev rfl rfl ?_ | refine run_call rfl ?_)
    | (show goOn ..; first | refine on_nop ?_ | refine on_new ?_ | refine on_put ?_ | refine on_born ?_ | refine on_grow ?_)
    | (show putGo ..; refine put_box ?_)
    | (show callGo ..; (refine call_pure (r := ?_) ?_ ?_; rotate_left 1; (focus first | exact h1 | exact h2 | exact h3)))
    | (show wGo ..; first | refine gw_tt ?_ | refine gw_ff ?_ | refine gw_tf ?_ | refine gw_ft ?_ | refine gw_u ?_ | refine gw_tn (fun _ => ?_) (fun _ => ?_) | refine gw_fn (fun _ => ?_) (fun _ => ?_) | refine gw_tb (fun _ => ?_) (fun _ => ?_) | refine gw_fb (fun _ => ?_) (fun _ => ?_))
    | (show dr ..; first | refine dr_nil ?_ | refine dr_n rfl ?_ | refine dr_w' rfl rfl ?_)
    | (show drGo ..; first | refine dr_ev rfl ?_ | refine dr_call rfl ?_)
    | (show drOn ..; first | refine dn_nop ?_ | refine dn_new ?_ | refine dn_put ?_ | refine dn_born ?_ | refine dn_grow ?_)
    | (show dputGo ..; refine dput_box ?_)
    | (show dcallGo ..; (refine dcall_pure (r := ?_) ?_ ?_; rotate_left 1; (focus first | exact h1 | exact h2 | exact h3)))
    | (refine And.intro (by kernel_rfl : okAll _ = true) ?_)
    | (show pwCode ..; first | refine pc_seq ?_ | refine pc_region ?_ | refine pc_draw (by kernel_rfl) ?_ | refine pc_ret ?_ | refine pc_skip ?_ | refine pc_block ?_ | refine pc_exit ?_ | refine pc_cond ?_)
    | (show condGo ..; first | refine cd_t ?_ | refine cd_f ?_ | refine cd_n (fun _ => ?_) (fun _ => ?_) | refine cd_b (fun _ => ?_) (fun _ => ?_))
    | refine th_normal ?_
    | refine th_ret ?_
    | refine th_exit ?_
    | refine th_pan ?_
    | refine bl_normal ?_
    | refine bl_exit ?_
    | refine bl_pass rfl ?_
    | refine bl_ret ?_
    | refine bl_pan ?_
    | (show retQ ..; first | refine rt_ret ?_ | refine rt_normal ?_)
    | refine rs_some ?_)
  all_goals rfl
theorem law17_finds (w : Wd) (t : Ob) (r : Rf) (kind : Int) (write : Bool) (xw : w.wf) (xt : t.wf) (xr : r.wf) (xk : I kind) (xb : True) :
    Pure Try.prog 5 [.agg (Wd.enc w), .agg (Ob.enc t), .agg (Rf.enc r), .int .i64 kind, .bool write] (.bool true) := by
  have hk := law17_awake
  have lo : ∀ x ∈ w.objects, x.L := fun x hx => Ob.lens (xw.2.2.2.1 x hx)
  have lt := Ob.lens xt
  have b1 := law17_few w xw.2.2.2.2 lo
  cases h1 : fewR w with
  | false =>
    rw [h1] at b1
    refine pureI (by kernel_rfl) (by simp only [go_sem, *]) (by simp only [go_sem, *]) Try.func5 Try.results5 rfl (by simp [Try.ntmps5]) (by kernel_rfl) ?_
    repeat' (first
    | (show pwOps ..; first | refine pops_nil ?_ | refine pops_n rfl ?_ | refine pops_w' rfl rfl ?_)
    | (show runGo ..; first | refine run_ev rfl rfl ?_ | refine run_call rfl ?_)
    | (show goOn ..; first | refine on_nop ?_ | refine on_new ?_ | refine on_put ?_ | refine on_born ?_ | refine on_grow ?_)
    | (show putGo ..; refine put_box ?_)
    | (show callGo ..; (refine call_pure (r := ?_) ?_ ?_; rotate_left 1; (focus first | exact b1 | exact hk)))
    | (show wGo ..; first | refine gw_tt ?_ | refine gw_ff ?_ | refine gw_tf ?_ | refine gw_ft ?_ | refine gw_u ?_ | refine gw_tn (fun _ => ?_) (fun _ => ?_) | refine gw_fn (fun _ => ?_) (fun _ => ?_) | refine gw_tb (fun _ => ?_) (fun _ => ?_) | refine gw_fb (fun _ => ?_) (fun _ => ?_))
    | (show dr ..; first | refine dr_nil ?_ | refine dr_n rfl ?_ | refine dr_w' rfl rfl ?_)
    | (show drGo ..; first | refine dr_ev rfl ?_ | refine dr_call rfl ?_)
    | (show drOn ..; first | refine dn_nop ?_ | refine dn_new ?_ | refine dn_put ?_ | refine dn_born ?_ | refine dn_grow ?_)
    | (show dputGo ..; refine dput_box ?_)
    | (show dcallGo ..; (refine dcall_pure (r := ?_) ?_ ?_; rotate_left 1; (focus first | exact b1 | exact hk)))
    | (refine And.intro (by kernel_rfl : okAll _ = true) ?_)
    | (show pwCode ..; first | refine pc_seq ?_ | refine pc_region ?_ | refine pc_draw (by kernel_rfl) ?_ | refine pc_ret ?_ | refine pc_skip ?_ | refine pc_block ?_ | refine pc_exit ?_ | refine pc_cond ?_)
    | (show condGo ..; first | refine cd_t ?_ | refine cd_f ?_ | refine cd_n (fun _ => ?_) (fun _ => ?_) | refine cd_b (fun _ => ?_) (fun _ => ?_))
    | refine th_normal ?_
    | refine th_ret ?_
    | refine th_exit ?_
    | refine th_pan ?_
    | refine bl_normal ?_
    | refine bl_exit ?_
    | refine bl_pass rfl ?_
    | refine bl_ret ?_
    | refine bl_pan ?_
    | (show retQ ..; first | refine rt_ret ?_ | refine rt_normal ?_)
    | refine rs_some ?_)
    all_goals rfl
  | true =>
  have b2 := law17_thread t lt
  cases h2 : thrR t with
  | false =>
    rw [h1] at b1
    rw [h2] at b2
    refine pureI (by kernel_rfl) (by simp only [go_sem, *]) (by simp only [go_sem, *]) Try.func5 Try.results5 rfl (by simp [Try.ntmps5]) (by kernel_rfl) ?_
    repeat' (first
    | (show pwOps ..; first | refine pops_nil ?_ | refine pops_n rfl ?_ | refine pops_w' rfl rfl ?_)
    | (show runGo ..; first | refine run_ev rfl rfl ?_ | refine run_call rfl ?_)
    | (show goOn ..; first | refine on_nop ?_ | refine on_new ?_ | refine on_put ?_ | refine on_born ?_ | refine on_grow ?_)
    | (show putGo ..; refine put_box ?_)
    | (show callGo ..; (refine call_pure (r := ?_) ?_ ?_; rotate_left 1; (focus first | exact b1 | exact b2 | exact hk)))
    | (show wGo ..; first | refine gw_tt ?_ | refine gw_ff ?_ | refine gw_tf ?_ | refine gw_ft ?_ | refine gw_u ?_ | refine gw_tn (fun _ => ?_) (fun _ => ?_) | refine gw_fn (fun _ => ?_) (fun _ => ?_) | refine gw_tb (fun _ => ?_) (fun _ => ?_) | refine gw_fb (fun _ => ?_) (fun _ => ?_))
    | (show dr ..; first | refine dr_nil ?_ | refine dr_n rfl ?_ | refine dr_w' rfl rfl ?_)
    | (show drGo ..; first | refine dr_ev rfl ?_ | refine dr_call rfl ?_)
    | (show drOn ..; first | refine dn_nop ?_ | refine dn_new ?_ | refine dn_put ?_ | refine dn_born ?_ | refine dn_grow ?_)
    | (show dputGo ..; refine dput_box ?_)
    | (show dcallGo ..; (refine dcall_pure (r := ?_) ?_ ?_; rotate_left 1; (focus first | exact b1 | exact b2 | exact hk)))
    | (refine And.intro (by kernel_rfl : okAll _ = true) ?_)
    | (show pwCode ..; first | refine pc_seq ?_ | refine pc_region ?_ | refine pc_draw (by kernel_rfl) ?_ | refine pc_ret ?_ | refine pc_skip ?_ | refine pc_block ?_ | refine pc_exit ?_ | refine pc_cond ?_)
    | (show condGo ..; first | refine cd_t ?_ | refine cd_f ?_ | refine cd_n (fun _ => ?_) (fun _ => ?_) | refine cd_b (fun _ => ?_) (fun _ => ?_))
    | refine th_normal ?_
    | refine th_ret ?_
    | refine th_exit ?_
    | refine th_pan ?_
    | refine bl_normal ?_
    | refine bl_exit ?_
    | refine bl_pass rfl ?_
    | refine bl_ret ?_
    | refine bl_pan ?_
    | (show retQ ..; first | refine rt_ret ?_ | refine rt_normal ?_)
    | refine rs_some ?_)
    all_goals rfl
  | true =>
  rw [h1] at b1
  rw [h2] at b2
  obtain ⟨hf, hw⟩ := fewR_of h1
  have lw : w.L := ⟨xw.2.2.2.2, fun x hx => ⟨lo x hx, by have := (hf.ob x hx).1; omega⟩⟩
  have hwd := fit_wd hw
  obtain ⟨ht, htl⟩ := thr_fit h2
  clear h1 h2
  have c1 := reach_look w t r hf hwd ht htl
  have d1 := r17_look w t r hf htl
  have c2 := reach_see w t r kind hf hwd ht htl
  have d2 := r17_see w t r kind hf htl
  have c3 := reach_change w t r kind hf hwd ht htl
  have d3 := r17_change w t r kind hf htl
  have c4 := reach_dir w t r.cont write hf hwd ht htl
  have d4 := r17_dir w t r.cont write hf htl
  have s1 := one_self (lookR_L lw t r)
  have s2 := one_self (seeR_L lw t r kind)
  have s3 := one_self (changeR_L lw t r kind)
  have s4 := one_self (dirR_L lw t r.cont write)
  generalize lookR w t r = p1 at c1 d1 s1
  generalize seeR w t r kind = p2 at c2 d2 s2
  generalize changeR w t r kind = p3 at c3 d3 s3
  generalize dirR w t r.cont write = p4 at c4 d4 s4
  refine pureI (by kernel_rfl) (by simp only [go_sem, *]) (by simp only [go_sem, *]) Try.func5 Try.results5 rfl (by simp [Try.ntmps5]) (by kernel_rfl) ?_
  repeat' (first
    | (show pwOps ..; first | refine pops_nil ?_ | refine pops_n rfl ?_ | refine pops_w' rfl rfl ?_)
    | (show runGo ..; first | refine run_ev rfl rfl ?_ | refine run_call rfl ?_)
    | (show goOn ..; first | refine on_nop ?_ | refine on_new ?_ | refine on_put ?_ | refine on_born ?_ | refine on_grow ?_)
    | (show putGo ..; refine put_box ?_)
    | (show callGo ..; (refine call_pure (r := ?_) ?_ ?_; rotate_left 1; (focus first | exact b1 | exact b2 | exact c1 | exact d1 | exact c2 | exact d2 | exact c3 | exact d3 | exact c4 | exact d4 | exact s1 | exact s2 | exact s3 | exact s4 | exact hk)))
    | (show wGo ..; first | refine gw_tt ?_ | refine gw_ff ?_ | refine gw_tf ?_ | refine gw_ft ?_ | refine gw_u ?_ | refine gw_tn (fun _ => ?_) (fun _ => ?_) | refine gw_fn (fun _ => ?_) (fun _ => ?_) | refine gw_tb (fun _ => ?_) (fun _ => ?_) | refine gw_fb (fun _ => ?_) (fun _ => ?_))
    | (show dr ..; first | refine dr_nil ?_ | refine dr_n rfl ?_ | refine dr_w' rfl rfl ?_)
    | (show drGo ..; first | refine dr_ev rfl ?_ | refine dr_call rfl ?_)
    | (show drOn ..; first | refine dn_nop ?_ | refine dn_new ?_ | refine dn_put ?_ | refine dn_born ?_ | refine dn_grow ?_)
    | (show dputGo ..; refine dput_box ?_)
    | (show dcallGo ..; (refine dcall_pure (r := ?_) ?_ ?_; rotate_left 1; (focus first | exact b1 | exact b2 | exact c1 | exact d1 | exact c2 | exact d2 | exact c3 | exact d3 | exact c4 | exact d4 | exact s1 | exact s2 | exact s3 | exact s4 | exact hk)))
    | (refine And.intro (by kernel_rfl : okAll _ = true) ?_)
    | (show pwCode ..; first | refine pc_seq ?_ | refine pc_region ?_ | refine pc_draw (by kernel_rfl) ?_ | refine pc_ret ?_ | refine pc_skip ?_ | refine pc_block ?_ | refine pc_exit ?_ | refine pc_cond ?_)
    | (show condGo ..; first | refine cd_t ?_ | refine cd_f ?_ | refine cd_n (fun _ => ?_) (fun _ => ?_) | refine cd_b (fun _ => ?_) (fun _ => ?_))
    | refine th_normal ?_
    | refine th_ret ?_
    | refine th_exit ?_
    | refine th_pan ?_
    | refine bl_normal ?_
    | refine bl_exit ?_
    | refine bl_pass rfl ?_
    | refine bl_ret ?_
    | refine bl_pan ?_
    | (show retQ ..; first | refine rt_ret ?_ | refine rt_normal ?_)
    | refine rs_some ?_)
  all_goals rfl
theorem see_look {w : Wd} {t : Ob} {r : Rf} {k : Int} : (((seeR w t r k).2 == 0) = true → (lookR w t r).2 = 0 ∧ (seeR w t r k).1 = (lookR w t r).1 ∧ seeR w t r 0 = seeR w t r k) ∧ (((lookR w t r).2 == 0) = false → seeR w t r k = (Ob.zero, (lookR w t r).2)) := by
  unfold seeR
  constructor
  · intro h
    split at h
    · rename_i h1
      split at h
      · split at h
        · rename_i h2 h3
          rw [if_pos h1, if_pos h2, if_pos h3, if_pos h1, if_pos (by simp)]
          exact ⟨by simpa using h1, rfl, rfl⟩
        · simp at h
      · simp at h
    · rename_i h1; exact absurd h h1
  · intro h; rw [if_neg (by rw [h]; simp)]
theorem change_see {w : Wd} {t : Ob} {r : Rf} {k : Int} : (((changeR w t r k).2 == 0) = true → changeR w t r k = seeR w t r k) ∧ (((seeR w t r k).2 == 0) = false → changeR w t r k = (Ob.zero, (seeR w t r k).2)) := by
  unfold changeR
  constructor
  · intro h
    split at h
    · rename_i h1
      split at h
      · rename_i h2
        rw [if_pos h1, if_pos h2]
        have : (seeR w t r k).2 = 0 := by simpa using h1
        rw [← this]
      · simp at h
    · rename_i h1; exact absurd h h1
  · intro h; rw [if_neg (by rw [h]; simp)]
theorem find_id {w : Wd} {id : Int} (h : (findR w id).2 = true) : (findR w id).1.id = id ∧ (findR w id).1 ∈ w.objects := by
  unfold findR at h ⊢
  split
  · rename_i x hx
    exact ⟨by have := List.find?_some hx; simpa using this, List.mem_of_find?_eq_some hx⟩
  · rename_i hx; rw [hx] at h; cases h
theorem links_found {w : Wd} (hw : fitW w = true) {d : Ob} (hd : d ∈ w.objects) {id : Int} (hi : id ∈ d.links) : (findR w id).2 = true := by
  unfold fitW at hw
  simp only [Bool.and_eq_true] at hw
  obtain ⟨k, hk⟩ := List.getElem?_of_mem hd
  have h1 := allB_iff.1 hw.2.1 k (len_lt hk)
  unfold treeAt at h1
  rw [hk] at h1
  simp only [Bool.and_eq_true] at h1
  have h2 := h1.1
  unfold linksR at h2
  simp only [Bool.and_eq_true] at h2
  obtain ⟨n, hn⟩ := List.getElem?_of_mem hi
  have h3 := allB_iff.1 h2.1 n (len_lt hn)
  unfold linksAt at h3
  rw [hn] at h3
  simp only [Bool.and_eq_true] at h3
  exact h3.1
theorem dir_found {w : Wd} {t : Ob} {id : Int} {b : Bool} (h : ((dirR w t id b).2 == 0) = true) : (dirR w t id b).1 = (findR w id).1 ∧ (findR w id).2 = true ∧ seesR t (findR w id).1 = true := by
  unfold dirR at h ⊢
  split at h
  · rename_i h1
    rw [if_pos h1]
    simp only [Bool.and_eq_true] at h1
    split at h
    · rename_i h2; rw [if_pos h2]; exact ⟨rfl, h1.1, h1.2.2⟩
    · simp at h
  · simp at h
theorem look_named {w : Wd} {t : Ob} {r : Rf} (hw : fitW w = true) (h : ((lookR w t r).2 == 0) = true) : (lookR w t r).1.id = r.id := by
  unfold lookR at h ⊢
  split at h
  · rename_i h1
    rw [if_pos h1]
    split at h
    · rename_i h2
      rw [if_pos h2]
      obtain ⟨e1, e2, _⟩ := dir_found h1
      rw [e1] at h2
      obtain ⟨x, hx, hxi⟩ := List.any_eq_true.1 h2
      have : x = r.id := by simpa using hxi
      subst this
      exact (find_id (links_found hw (find_id e2).2 hx)).1
    · simp at h
  · rename_i h1; simp only at h; rw [h] at h1; exact absurd rfl h1
theorem law17_order (w : Wd) (t : Ob) (r : Rf) (kind : Int) (xw : w.wf) (xt : t.wf) (xr : r.wf) (xk : I kind) :
    Pure Try.prog 7 [.agg (Wd.enc w), .agg (Ob.enc t), .agg (Rf.enc r), .int .i64 kind] (.bool true) := by
  have hk := law17_awake
  have lo : ∀ x ∈ w.objects, x.L := fun x hx => Ob.lens (xw.2.2.2.1 x hx)
  have lt := Ob.lens xt
  have b1 := law17_few w xw.2.2.2.2 lo
  cases h1 : fewR w with
  | false =>
    rw [h1] at b1
    refine pureI (by kernel_rfl) (by simp only [go_sem, *]) (by simp only [go_sem, *]) Try.func7 Try.results7 rfl (by simp [Try.ntmps7]) (by kernel_rfl) ?_
    repeat' (first
    | (show pwOps ..; first | refine pops_nil ?_ | refine pops_n rfl ?_ | refine pops_w' rfl rfl ?_)
    | (show runGo ..; first | refine run_ev rfl rfl ?_ | refine run_call rfl ?_)
    | (show goOn ..; first | refine on_nop ?_ | refine on_new ?_ | refine on_put ?_ | refine on_born ?_ | refine on_grow ?_)
    | (show putGo ..; refine put_box ?_)
    | (show callGo ..; (refine call_pure (r := ?_) ?_ ?_; rotate_left 1; (focus first | exact b1 | exact hk)))
    | (show wGo ..; first | refine gw_tt ?_ | refine gw_ff ?_ | refine gw_tf ?_ | refine gw_ft ?_ | refine gw_u ?_ | refine gw_tn (fun _ => ?_) (fun _ => ?_) | refine gw_fn (fun _ => ?_) (fun _ => ?_) | refine gw_tb (fun _ => ?_) (fun _ => ?_) | refine gw_fb (fun _ => ?_) (fun _ => ?_))
    | (show dr ..; first | refine dr_nil ?_ | refine dr_n rfl ?_ | refine dr_w' rfl rfl ?_)
    | (show drGo ..; first | refine dr_ev rfl ?_ | refine dr_call rfl ?_)
    | (show drOn ..; first | refine dn_nop ?_ | refine dn_new ?_ | refine dn_put ?_ | refine dn_born ?_ | refine dn_grow ?_)
    | (show dputGo ..; refine dput_box ?_)
    | (show dcallGo ..; (refine dcall_pure (r := ?_) ?_ ?_; rotate_left 1; (focus first | exact b1 | exact hk)))
    | (refine And.intro (by kernel_rfl : okAll _ = true) ?_)
    | (show pwCode ..; first | refine pc_seq ?_ | refine pc_region ?_ | refine pc_draw (by kernel_rfl) ?_ | refine pc_ret ?_ | refine pc_skip ?_ | refine pc_block ?_ | refine pc_exit ?_ | refine pc_cond ?_)
    | (show condGo ..; first | refine cd_t ?_ | refine cd_f ?_ | refine cd_n (fun _ => ?_) (fun _ => ?_) | refine cd_b (fun _ => ?_) (fun _ => ?_))
    | refine th_normal ?_
    | refine th_ret ?_
    | refine th_exit ?_
    | refine th_pan ?_
    | refine bl_normal ?_
    | refine bl_exit ?_
    | refine bl_pass rfl ?_
    | refine bl_ret ?_
    | refine bl_pan ?_
    | (show retQ ..; first | refine rt_ret ?_ | refine rt_normal ?_)
    | refine rs_some ?_)
    all_goals rfl
  | true =>
  have b2 := law17_thread t lt
  cases h2 : thrR t with
  | false =>
    rw [h1] at b1
    rw [h2] at b2
    refine pureI (by kernel_rfl) (by simp only [go_sem, *]) (by simp only [go_sem, *]) Try.func7 Try.results7 rfl (by simp [Try.ntmps7]) (by kernel_rfl) ?_
    repeat' (first
    | (show pwOps ..; first | refine pops_nil ?_ | refine pops_n rfl ?_ | refine pops_w' rfl rfl ?_)
    | (show runGo ..; first | refine run_ev rfl rfl ?_ | refine run_call rfl ?_)
    | (show goOn ..; first | refine on_nop ?_ | refine on_new ?_ | refine on_put ?_ | refine on_born ?_ | refine on_grow ?_)
    | (show putGo ..; refine put_box ?_)
    | (show callGo ..; (refine call_pure (r := ?_) ?_ ?_; rotate_left 1; (focus first | exact b1 | exact b2 | exact hk)))
    | (show wGo ..; first | refine gw_tt ?_ | refine gw_ff ?_ | refine gw_tf ?_ | refine gw_ft ?_ | refine gw_u ?_ | refine gw_tn (fun _ => ?_) (fun _ => ?_) | refine gw_fn (fun _ => ?_) (fun _ => ?_) | refine gw_tb (fun _ => ?_) (fun _ => ?_) | refine gw_fb (fun _ => ?_) (fun _ => ?_))
    | (show dr ..; first | refine dr_nil ?_ | refine dr_n rfl ?_ | refine dr_w' rfl rfl ?_)
    | (show drGo ..; first | refine dr_ev rfl ?_ | refine dr_call rfl ?_)
    | (show drOn ..; first | refine dn_nop ?_ | refine dn_new ?_ | refine dn_put ?_ | refine dn_born ?_ | refine dn_grow ?_)
    | (show dputGo ..; refine dput_box ?_)
    | (show dcallGo ..; (refine dcall_pure (r := ?_) ?_ ?_; rotate_left 1; (focus first | exact b1 | exact b2 | exact hk)))
    | (refine And.intro (by kernel_rfl : okAll _ = true) ?_)
    | (show pwCode ..; first | refine pc_seq ?_ | refine pc_region ?_ | refine pc_draw (by kernel_rfl) ?_ | refine pc_ret ?_ | refine pc_skip ?_ | refine pc_block ?_ | refine pc_exit ?_ | refine pc_cond ?_)
    | (show condGo ..; first | refine cd_t ?_ | refine cd_f ?_ | refine cd_n (fun _ => ?_) (fun _ => ?_) | refine cd_b (fun _ => ?_) (fun _ => ?_))
    | refine th_normal ?_
    | refine th_ret ?_
    | refine th_exit ?_
    | refine th_pan ?_
    | refine bl_normal ?_
    | refine bl_exit ?_
    | refine bl_pass rfl ?_
    | refine bl_ret ?_
    | refine bl_pan ?_
    | (show retQ ..; first | refine rt_ret ?_ | refine rt_normal ?_)
    | refine rs_some ?_)
    all_goals rfl
  | true =>
  rw [h1] at b1
  rw [h2] at b2
  obtain ⟨hf, hw⟩ := fewR_of h1
  have lw : w.L := ⟨xw.2.2.2.2, fun x hx => ⟨lo x hx, by have := (hf.ob x hx).1; omega⟩⟩
  have hwd := fit_wd hw
  obtain ⟨ht, htl⟩ := thr_fit h2
  clear h1 h2
  have c1 := reach_look w t r hf hwd ht htl
  have c2 := reach_see w t r kind hf hwd ht htl
  have c3 := reach_change w t r kind hf hwd ht htl
  have c4 := reach_see w t r 0 hf hwd ht htl
  have s1 := one_self (lookR_L lw t r)
  have e1 := see_look (w := w) (t := t) (r := r) (k := kind)
  have e2 := change_see (w := w) (t := t) (r := r) (k := kind)
  have e3 := (see_look (w := w) (t := t) (r := r) (k := 0)).2
  have e4 := look_named (w := w) (t := t) (r := r) hw
  generalize lookR w t r = p1 at c1 s1 e1 e2 e3 e4
  generalize seeR w t r kind = p2 at c2 e1 e2
  generalize changeR w t r kind = p3 at c3 e2
  generalize seeR w t r 0 = p4 at c4 e1 e3
  obtain ⟨o1, k1⟩ := p1
  obtain ⟨o2, k2⟩ := p2
  obtain ⟨o3, k3⟩ := p3
  obtain ⟨o4, k4⟩ := p4
  simp only at c1 c2 c3 c4 s1 e1 e2 e3 e4
  have n1 : (k1 != 0) = !(k1 == 0) := rfl
  have n2 : (k2 != 0) = !(k2 == 0) := rfl
  have n4 : (k4 != 0) = !(k4 == 0) := rfl
  cases hk1 : (k1 == 0) with
  | false =>
    obtain ⟨rfl, rfl⟩ := Prod.mk.inj (e1.2 hk1)
    obtain ⟨rfl, rfl⟩ := Prod.mk.inj (e2.2 hk1)
    obtain ⟨rfl, rfl⟩ := Prod.mk.inj (e3 hk1)
    have self : (k4 == k4) = true := by simp
    clear e1 e2 e3 e4
    rw [hk1] at n1
    simp only [Bool.not_false] at n1
    refine pureI (by kernel_rfl) (by simp only [go_sem, *]) (by simp only [go_sem, *]) Try.func7 Try.results7 rfl (by simp [Try.ntmps7]) (by kernel_rfl) ?_
    repeat' (first
    | (show pwOps ..; first | refine pops_nil ?_ | refine pops_n rfl ?_ | refine pops_w' rfl rfl ?_)
    | (show runGo ..; first | refine run_ev rfl rfl ?_ | refine run_call rfl ?_)
    | (show goOn ..; first | refine on_nop ?_ | refine on_new ?_ | refine on_put ?_ | refine on_born ?_ | refine on_grow ?_)
    | (show putGo ..; refine put_box ?_)
    | (show callGo ..; (refine call_pure (r := ?_) ?_ ?_; rotate_left 1; (focus first | exact b1 | exact b2 | exact c1 | exact c2 | exact c3 | exact c4 | exact s1 | exact hk)))
    | (show wGo ..; first | refine gw_tt ?_ | refine gw_ff ?_ | refine gw_tf ?_ | refine gw_ft ?_ | refine gw_u ?_ | refine gw_tn (fun _ => ?_) (fun _ => ?_) | refine gw_fn (fun _ => ?_) (fun _ => ?_) | refine gw_tb (fun _ => ?_) (fun _ => ?_) | refine gw_fb (fun _ => ?_) (fun _ => ?_))
    | (show dr ..; first | refine dr_nil ?_ | refine dr_n rfl ?_ | refine dr_w' rfl rfl ?_)
    | (show drGo ..; first | refine dr_ev rfl ?_ | refine dr_call rfl ?_)
    | (show drOn ..; first | refine dn_nop ?_ | refine dn_new ?_ | refine dn_put ?_ | refine dn_born ?_ | refine dn_grow ?_)
    | (show dputGo ..; refine dput_box ?_)
    | (show dcallGo ..; (refine dcall_pure (r := ?_) ?_ ?_; rotate_left 1; (focus first | exact b1 | exact b2 | exact c1 | exact c2 | exact c3 | exact c4 | exact s1 | exact hk)))
    | (refine And.intro (by kernel_rfl : okAll _ = true) ?_)
    | (show pwCode ..; first | refine pc_seq ?_ | refine pc_region ?_ | refine pc_draw (by kernel_rfl) ?_ | refine pc_ret ?_ | refine pc_skip ?_ | refine pc_block ?_ | refine pc_exit ?_ | refine pc_cond ?_)
    | (show condGo ..; first | refine cd_t ?_ | refine cd_f ?_ | refine cd_n (fun _ => ?_) (fun _ => ?_) | refine cd_b (fun _ => ?_) (fun _ => ?_))
    | refine th_normal ?_
    | refine th_ret ?_
    | refine th_exit ?_
    | refine th_pan ?_
    | refine bl_normal ?_
    | refine bl_exit ?_
    | refine bl_pass rfl ?_
    | refine bl_ret ?_
    | refine bl_pan ?_
    | (show retQ ..; first | refine rt_ret ?_ | refine rt_normal ?_)
    | refine rs_some ?_)
    all_goals rfl
  | true =>
  have e4 := e4 hk1
  have e4' : (o1.id == r.id) = true := by simpa using e4
  clear e4
  rw [hk1] at n1
  simp only [Bool.not_true] at n1
  cases hk2 : (k2 == 0) with
  | false =>
    obtain ⟨rfl, rfl⟩ := Prod.mk.inj (e2.2 hk2)
    clear e1 e2 e3
    rw [hk2] at n2
    simp only [Bool.not_false] at n2
    refine pureI (by kernel_rfl) (by simp only [go_sem, *]) (by simp only [go_sem, *]) Try.func7 Try.results7 rfl (by simp [Try.ntmps7]) (by kernel_rfl) ?_
    repeat' (first
    | (show pwOps ..; first | refine pops_nil ?_ | refine pops_n rfl ?_ | refine pops_w' rfl rfl ?_)
    | (show runGo ..; first | refine run_ev rfl rfl ?_ | refine run_call rfl ?_)
    | (show goOn ..; first | refine on_nop ?_ | refine on_new ?_ | refine on_put ?_ | refine on_born ?_ | refine on_grow ?_)
    | (show putGo ..; refine put_box ?_)
    | (show callGo ..; (refine call_pure (r := ?_) ?_ ?_; rotate_left 1; (focus first | exact b1 | exact b2 | exact c1 | exact c2 | exact c3 | exact c4 | exact s1 | exact hk)))
    | (show wGo ..; first | refine gw_tt ?_ | refine gw_ff ?_ | refine gw_tf ?_ | refine gw_ft ?_ | refine gw_u ?_ | refine gw_tn (fun _ => ?_) (fun _ => ?_) | refine gw_fn (fun _ => ?_) (fun _ => ?_) | refine gw_tb (fun _ => ?_) (fun _ => ?_) | refine gw_fb (fun _ => ?_) (fun _ => ?_))
    | (show dr ..; first | refine dr_nil ?_ | refine dr_n rfl ?_ | refine dr_w' rfl rfl ?_)
    | (show drGo ..; first | refine dr_ev rfl ?_ | refine dr_call rfl ?_)
    | (show drOn ..; first | refine dn_nop ?_ | refine dn_new ?_ | refine dn_put ?_ | refine dn_born ?_ | refine dn_grow ?_)
    | (show dputGo ..; refine dput_box ?_)
    | (show dcallGo ..; (refine dcall_pure (r := ?_) ?_ ?_; rotate_left 1; (focus first | exact b1 | exact b2 | exact c1 | exact c2 | exact c3 | exact c4 | exact s1 | exact hk)))
    | (refine And.intro (by kernel_rfl : okAll _ = true) ?_)
    | (show pwCode ..; first | refine pc_seq ?_ | refine pc_region ?_ | refine pc_draw (by kernel_rfl) ?_ | refine pc_ret ?_ | refine pc_skip ?_ | refine pc_block ?_ | refine pc_exit ?_ | refine pc_cond ?_)
    | (show condGo ..; first | refine cd_t ?_ | refine cd_f ?_ | refine cd_n (fun _ => ?_) (fun _ => ?_) | refine cd_b (fun _ => ?_) (fun _ => ?_))
    | refine th_normal ?_
    | refine th_ret ?_
    | refine th_exit ?_
    | refine th_pan ?_
    | refine bl_normal ?_
    | refine bl_exit ?_
    | refine bl_pass rfl ?_
    | refine bl_ret ?_
    | refine bl_pan ?_
    | (show retQ ..; first | refine rt_ret ?_ | refine rt_normal ?_)
    | refine rs_some ?_)
    all_goals rfl
  | true =>
    obtain ⟨_, rfl, q4⟩ := e1.1 hk2
    obtain ⟨rfl, rfl⟩ := Prod.mk.inj q4
    rw [hk2] at n2
    simp only [Bool.not_true] at n2
    cases hk3 : (k3 == 0) with
    | true =>
      obtain ⟨rfl, rfl⟩ := Prod.mk.inj (e2.1 hk3)
      clear e1 e2 e3 q4
      refine pureI (by kernel_rfl) (by simp only [go_sem, *]) (by simp only [go_sem, *]) Try.func7 Try.results7 rfl (by simp [Try.ntmps7]) (by kernel_rfl) ?_
      repeat' (first
    | (show pwOps ..; first | refine pops_nil ?_ | refine pops_n rfl ?_ | refine pops_w' rfl rfl ?_)
    | (show runGo ..; first | refine run_ev rfl rfl ?_ | refine run_call rfl ?_)
    | (show goOn ..; first | refine on_nop ?_ | refine on_new ?_ | refine on_put ?_ | refine on_born ?_ | refine on_grow ?_)
    | (show putGo ..; refine put_box ?_)
    | (show callGo ..; (refine call_pure (r := ?_) ?_ ?_; rotate_left 1; (focus first | exact b1 | exact b2 | exact c1 | exact c2 | exact c3 | exact c4 | exact s1 | exact hk)))
    | (show wGo ..; first | refine gw_tt ?_ | refine gw_ff ?_ | refine gw_tf ?_ | refine gw_ft ?_ | refine gw_u ?_ | refine gw_tn (fun _ => ?_) (fun _ => ?_) | refine gw_fn (fun _ => ?_) (fun _ => ?_) | refine gw_tb (fun _ => ?_) (fun _ => ?_) | refine gw_fb (fun _ => ?_) (fun _ => ?_))
    | (show dr ..; first | refine dr_nil ?_ | refine dr_n rfl ?_ | refine dr_w' rfl rfl ?_)
    | (show drGo ..; first | refine dr_ev rfl ?_ | refine dr_call rfl ?_)
    | (show drOn ..; first | refine dn_nop ?_ | refine dn_new ?_ | refine dn_put ?_ | refine dn_born ?_ | refine dn_grow ?_)
    | (show dputGo ..; refine dput_box ?_)
    | (show dcallGo ..; (refine dcall_pure (r := ?_) ?_ ?_; rotate_left 1; (focus first | exact b1 | exact b2 | exact c1 | exact c2 | exact c3 | exact c4 | exact s1 | exact hk)))
    | (refine And.intro (by kernel_rfl : okAll _ = true) ?_)
    | (show pwCode ..; first | refine pc_seq ?_ | refine pc_region ?_ | refine pc_draw (by kernel_rfl) ?_ | refine pc_ret ?_ | refine pc_skip ?_ | refine pc_block ?_ | refine pc_exit ?_ | refine pc_cond ?_)
    | (show condGo ..; first | refine cd_t ?_ | refine cd_f ?_ | refine cd_n (fun _ => ?_) (fun _ => ?_) | refine cd_b (fun _ => ?_) (fun _ => ?_))
    | refine th_normal ?_
    | refine th_ret ?_
    | refine th_exit ?_
    | refine th_pan ?_
    | refine bl_normal ?_
    | refine bl_exit ?_
    | refine bl_pass rfl ?_
    | refine bl_ret ?_
    | refine bl_pan ?_
    | (show retQ ..; first | refine rt_ret ?_ | refine rt_normal ?_)
    | refine rs_some ?_)
      all_goals rfl
    | false =>
      clear e1 e2 e3 q4
      refine pureI (by kernel_rfl) (by simp only [go_sem, *]) (by simp only [go_sem, *]) Try.func7 Try.results7 rfl (by simp [Try.ntmps7]) (by kernel_rfl) ?_
      repeat' (first
    | (show pwOps ..; first | refine pops_nil ?_ | refine pops_n rfl ?_ | refine pops_w' rfl rfl ?_)
    | (show runGo ..; first | refine run_ev rfl rfl ?_ | refine run_call rfl ?_)
    | (show goOn ..; first | refine on_nop ?_ | refine on_new ?_ | refine on_put ?_ | refine on_born ?_ | refine on_grow ?_)
    | (show putGo ..; refine put_box ?_)
    | (show callGo ..; (refine call_pure (r := ?_) ?_ ?_; rotate_left 1; (focus first | exact b1 | exact b2 | exact c1 | exact c2 | exact c3 | exact c4 | exact s1 | exact hk)))
    | (show wGo ..; first | refine gw_tt ?_ | refine gw_ff ?_ | refine gw_tf ?_ | refine gw_ft ?_ | refine gw_u ?_ | refine gw_tn (fun _ => ?_) (fun _ => ?_) | refine gw_fn (fun _ => ?_) (fun _ => ?_) | refine gw_tb (fun _ => ?_) (fun _ => ?_) | refine gw_fb (fun _ => ?_) (fun _ => ?_))
    | (show dr ..; first | refine dr_nil ?_ | refine dr_n rfl ?_ | refine dr_w' rfl rfl ?_)
    | (show drGo ..; first | refine dr_ev rfl ?_ | refine dr_call rfl ?_)
    | (show drOn ..; first | refine dn_nop ?_ | refine dn_new ?_ | refine dn_put ?_ | refine dn_born ?_ | refine dn_grow ?_)
    | (show dputGo ..; refine dput_box ?_)
    | (show dcallGo ..; (refine dcall_pure (r := ?_) ?_ ?_; rotate_left 1; (focus first | exact b1 | exact b2 | exact c1 | exact c2 | exact c3 | exact c4 | exact s1 | exact hk)))
    | (refine And.intro (by kernel_rfl : okAll _ = true) ?_)
    | (show pwCode ..; first | refine pc_seq ?_ | refine pc_region ?_ | refine pc_draw (by kernel_rfl) ?_ | refine pc_ret ?_ | refine pc_skip ?_ | refine pc_block ?_ | refine pc_exit ?_ | refine pc_cond ?_)
    | (show condGo ..; first | refine cd_t ?_ | refine cd_f ?_ | refine cd_n (fun _ => ?_) (fun _ => ?_) | refine cd_b (fun _ => ?_) (fun _ => ?_))
    | refine th_normal ?_
    | refine th_ret ?_
    | refine th_exit ?_
    | refine th_pan ?_
    | refine bl_normal ?_
    | refine bl_exit ?_
    | refine bl_pass rfl ?_
    | refine bl_ret ?_
    | refine bl_pan ?_
    | (show retQ ..; first | refine rt_ret ?_ | refine rt_normal ?_)
    | refine rs_some ?_)
      all_goals rfl
end Go.Proofs.Ytggkjfllbfcagaa
