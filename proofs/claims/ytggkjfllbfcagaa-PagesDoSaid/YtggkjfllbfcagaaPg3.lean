import Derived.Test.YtggkjfllbfcagaaPg2
namespace Go.Proofs.Ytggkjfllbfcagaa
open Go Go.RowKit
set_option linter.unusedVariables false
set_option linter.unusedSimpArgs false
set_option maxHeartbeats 16000000
set_option maxRecDepth 100000
attribute [go_sem] hset_same
/-! pages.Put, pages.Drop. -/
theorem H3_eq (a z b : List PV) : hset (hset (hset (fun _ => none) 0 (some (.box a))) 1 (some (.box z))) 1 (some (.box b)) = heapL [(0, .box a), (1, .box b)] := by
  rw [← H2_eq]
  funext i
  unfold H2 hset
  split <;> rfl
theorem any_meets {l : List Mp} {m : Mp} (h : FitM l) (hm : OneM m) : l.any (fun x => has m x.va || has x m.va) = l.any (meetM m) := by
  rw [Bool.eq_iff_iff, List.any_eq_true, List.any_eq_true]
  constructor
  · rintro ⟨x, hx, e⟩; exact ⟨x, hx, by rw [← one_meets hm (h.one x hx)]; exact e⟩
  · rintro ⟨x, hx, e⟩; exact ⟨x, hx, by rw [one_meets hm (h.one x hx)]; exact e⟩
/-- Onto a slice without room. -/
theorem append_cap0 {P : Program} (w : World) (t e : TypeId) (i : TypeInfo) (z : Value) (ty : TypeId) (ht : P.underlying t = some (.slice e)) (hi : P.info? e = some i) (hz : i.zero = some z) (hzs : z.cells.size = i.size) (A : Option Addr) (vb cv : Nat) (x : List Value) (hxl : x.length = i.size) (hx1 : ∀ u ∈ x, u.oneCell' = true) (hcell : ∀ j u, x[j]? = some u → w.cell? ((⟨vb, 0, none⟩ : Addr).add j) = some u)
    (hby : (0 + 1) * i.bytes ≤ 140737488355328) :
    ∃ v' w', (Builtin.append_ #[t, t] ty #[.slice A 0 0, .slice (some ⟨vb, 0, none⟩) 1 cv]).run P w = .ok v' w' ∧ w'.ownsRow w.heap.size e i.size v' 1 x ∧ Below w.heap.size w w' := by
  have hsrc : Src P i.size t (.slice (some ⟨vb, 0, none⟩) 1 cv) 1 x w := Src.ofSlice w ht ⟨vb, 0, none⟩ 1 cv x (by rw [hxl]; simp) hcell hx1
  have hgr := run_append_grow_src (P := P) w t t ty e i z ht hi hz A 0 0 [] (by cases A <;> simp [Builtin.firstCells, loadCells, loadCellsFrom]) _ 1 x hsrc (by omega) (by omega) (growslice_fits (by omega) hby)
  have hml : 0 + 1 ≤ maxLen := by simp [maxLen]
  have hbel : Below w.heap.size w (w.drew.alloc (.cells (([] ++ x).toArray ++ Builtin.zeroCells z.cells (grownCap w (0 + 1) 0 e - (0 + 1))) e)) := (Below.refl _ _).drew.alloc (by simp) _
  have hl2 : ([] ++ x).length = (0 + 1) * i.size := by rw [List.nil_append, hxl]; simp
  have hge := grownCap_ge w (0 + 1) 0 e
  refine ⟨_, _, hgr, ⟨by rw [hxl]; simp, .inr ⟨w.heap.size, grownCap w (0 + 1) 0 e, _, rfl, Nat.le_refl _, heap_alloc_new w.drew _, hge, grownCap_le_maxLen w (0 + 1) 0 e hml, ?_, ?_⟩⟩, hbel⟩
  · simp only [Array.size_append, List.size_toArray, size_zeroCells, hzs, hl2, ← Nat.add_mul]
    congr 1
    omega
  · simp only [Array.toList_append]
    rw [show 1 * i.size = ([] ++ x).length by rw [hl2]]
    exact List.take_left
theorem insertMp_cap0 (A : Option Addr) (x : Cl szMp) (vb cv : Nat) (w : World) {cx : Array Value} {tx : TypeId} (hvb : w.heap[vb]? = some (.cells cx tx (0, 0))) (hcx : ∀ (j : Nat) (u : Value), x.1[j]? = some u → cx[j]? = some u) :
    Calls Try.prog 72 #[.slice A 0 0, .int .i64 0, .slice (some ⟨vb, 0, none⟩) 1 cv] w fun e w' => ∃ v', e = .returned v' ∧ RowC 52 w' w.heap.size v' [x] ∧ Below w.heap.size w w' := by
  obtain ⟨i, hi, hzz⟩ := Option.map_eq_some_iff.1 infoSlMp
  simp only [Prod.mk.injEq] at hzz
  obtain ⟨v1, w1, hrun, hown, hblk⟩ := append_cap0 (P := Try.prog) w 26 52 i _ 26 Try.underlying26 hi hzz.1 (by rw [hzz.2.1]; rfl) A vb cv x.1 (by rw [hzz.2.1]; exact x.2.1) x.2.2 (fun j u hu => by rw [Addr.add_lit, Nat.zero_add, cell_of_row _ vb _ _ _ _ hvb]; exact hcx j u hu) (by rw [hzz.2.2]; omega)
  rw [hzz.2.1] at hown
  have hfin : Hid (RowC 52 w1 w.heap.size v1 [x]) := Lib.hid (by
    show w1.ownsRow w.heap.size 52 6 v1 1 (flat [x])
    have e : flat [x] = x.1 := by simp [flat]
    rw [e]; exact hown)
  have hbk : Hid (Below w.heap.size w w1) := Lib.hid hblk
  clear hown hblk hvb hcx hzz hi
  rw [← append_types (P := Try.prog) 26 26 52 52 26 Try.underlying26 Try.underlying26] at hrun
  go_enter Try.func72, Try.ntmps72
  go_wp2_with (at_builtin; refine Lib.wpList_append_run _ rfl _ _ _ _ rfl _ _ rfl rfl _ _ hrun ?_)
  all_goals (go_ret; exact ⟨_, rfl, hfin.out, hbk.out⟩)
theorem posV_F (l : List Mp) (n : Int) : posV l n = posF Mp.va l n := rfl
theorem ins_nil {fn : FuncId} (hf : fn = 72) (x : Mp) {H : Heap} {m ix e1 z1 : Nat} (hix : H ix = some (.box [Mp.enc x].flatten)) :
    CSat Try.prog fn [.c0, .int .i64 ((0 : Nat) : Int), .bs ix 1 e1 z1] H m (fun out H' m' => out = .ret (.bs m 1 52 szMp) ∧ H' = hset H m (some (.box [Mp.enc x].flatten)) ∧ m' = m + 1) := by
  subst hf
  intro w M0 σ vs hr hfree hvl
  obtain ⟨v, u1, u2, rfl, hv, hu1, hu2⟩ := vl_three hvl
  cases hu1
  have hxe : ([Mp.enc x].flatten).length = szMp := by simp only [List.flatten_cons, List.flatten_nil, List.append_nil]; exact Mp.len x
  generalize [Mp.enc x].flatten = xe at hix hxe ⊢
  cases hv with
  | c0 A =>
  cases hu2 with
  | bs _ _ _ _ hL2 h02 hc2 hty2 hsz2 =>
    obtain ⟨_, cx, tx, hgx, hshx, hcrx⟩ := hr.box ix _ hix
    have hxl : (cx.toList.take xe.length).length = szMp := by rw [hcrx.len, hxe]
    refine (insertMp_cap0 A ⟨cx.toList.take xe.length, hxl, hcrx.one⟩ (σ ix).blk _ w hgx (fun j u hj => ?_)).mono ?_
    · simp only at hj
      rw [List.getElem?_take] at hj
      split at hj
      · rw [Array.getElem?_toList] at hj; exact hj
      · cases hj
    rintro e w' ⟨v', rfl, hrow', hb⟩
    have hm : H m = none := hfree m (Nat.le_refl _)
    rcases hrow'.2 with ⟨h0, h00⟩ | ⟨g', cap', cur', rfl, hg0, hg', hn', hm', hs', ht'⟩
    · simp at h00
    · have hmore := hr.more hb hm (.box xe) ⟨g', cap', 0, 52, szMp⟩ hg0 (blk_lt hg') (fun l' hl' => by
        cases hl'
        refine ⟨rfl, cur', 52, hg', ⟨rfl, hs', hm'⟩, ?_⟩
        simp only [List.length_cons, List.length_nil, Nat.zero_add, Nat.one_mul] at ht'
        rw [hxe, ht', flat_cons, flat_nil, List.append_nil]
        exact hcrx) (fun e sz els hl => by cases hl)
      refine ⟨_, _, m + 1, gset σ m ⟨g', cap', 0, 52, szMp⟩, ⟨rfl, rfl, rfl⟩, hmore.1, fun i hi => by rw [hset_ne _ _ (by omega)]; exact hfree i (by omega), by omega, hmore.2, ?_⟩
      have := VR.bs (w := w') (M := MU M0 (gset σ m ⟨g', cap', 0, 52, szMp⟩) (hset H m (some (.box xe)))) (σ := gset σ m ⟨g', cap', 0, 52, szMp⟩) (L := LV (hset H m (some (.box xe)))) m 1 52 szMp (gset_lv _) (by rw [gset_same]) (by rw [gset_same]; simpa using hn') (by rw [gset_same]) (by rw [gset_same])
      rw [gset_same] at this
      exact this
theorem drop_eq {l : List Mp} (h : FitM l) (va : Int) : dropM l va = (match l[posF Mp.va l va]? with
    | some x => if (x.va == va) = true then (l.eraseIdx (posF Mp.va l va), 0) else (l, 1)
    | none => (l, 1)) := by
  have hd := h.dj
  have ho := fit_ones h
  clear h
  induction l with
  | nil => rfl
  | cons a l ih =>
    rw [List.pairwise_cons] at hd
    have ih := ih hd.2 (fun x hx => ho x (by simp [hx]))
    have ha := ho a (by simp)
    unfold posF at ih ⊢
    rw [List.takeWhile_cons]
    by_cases he : a.va < va
    · have hne : (a.va == va) = false := by simp; omega
      have e1 : dropM (a :: l) va = (a :: (dropM l va).1, (dropM l va).2) := by
        unfold dropM
        rw [List.any_cons, hne, Bool.false_or, List.filter_cons, hne]
        simp only [Bool.not_false, if_true]
        by_cases hq : (l.any fun x => x.va == va) = true
        · rw [if_pos hq, if_pos hq]
        · rw [if_neg hq, if_neg hq]
      rw [e1, ih, if_pos (decide_eq_true he), List.length_cons, List.getElem?_cons_succ]
      cases l[(l.takeWhile fun x => decide (x.va < va)).length]? with
      | none => rfl
      | some x => simp only [List.eraseIdx_cons_succ]; split <;> rfl
    · rw [if_neg (by simpa using he), List.length_nil, List.getElem?_cons_zero]
      simp only [List.eraseIdx_cons_zero]
      have hgt : ∀ x ∈ l, (x.va == va) = false := fun x hx => by have := hd.1 x hx; simp; omega
      unfold dropM
      by_cases hv : (a.va == va) = true
      · rw [if_pos hv, List.any_cons, hv, Bool.true_or, if_pos rfl, List.filter_cons, if_neg (by rw [hv]; simp)]
        rw [List.filter_eq_self.2 (fun x hx => by rw [hgt x hx]; rfl)]
      · have hv' : (a.va == va) = false := by simpa using hv
        rw [if_neg hv, List.any_cons, hv', Bool.false_or, if_neg]
        rw [Bool.not_eq_true, List.any_eq_false]
        intro x hx; rw [hgt x hx]; simp
attribute [local irreducible] pwOps dr pwCode Ex.then Ex.inBlock retQ okAll drawOk Pure CSat evOp calleeP rdOf upd hset strip sp0 cut envL heapL Again Keep BdL evBs AgainK KeepK
theorem pages_put (l : List Mp) (m : Mp) (h : FitM l) : Pure Try.prog 21 [.sl (l.map Mp.enc), .agg (Mp.enc m)] (.tup [.sl ((putM l m).1.map Mp.enc), .int .i64 (putM l m).2]) := by
  have hl : l.length ≤ 1000000 := Nat.le_trans h.len (by decide)
  have hcl : CloneC Try.prog 73 52 szMp := cloneMp_calls
  have hins : InsertC Try.prog 72 52 szMp := fun l v k x vb cv base w h1 h2 {cx tx} h3 h4 h5 h6 h7 => insertMp_calls l v k x vb cv base w h1 h2 h3 h4 h5 h6 h7
  have hM : ∀ S, BdL S (Mp.enc m) := fun S => by simp only [go_sem]
  have g0 := pages_good m
  rw [good_m] at g0
  cases h1 : mapOne m with
  | false =>
    have hp : putM l m = (l, 4) := by unfold putM; rw [if_neg (by rw [h1]; simp)]
    rw [hp]
    rw [h1] at g0
    clear hp
    refine pureF (by kernel_rfl) (by simp only [go_sem, *]) Try.func21 Try.results21 rfl (by simp [Try.ntmps21]) (by kernel_rfl) ?_
    repeat' (first
    | (show pwOps ..; first | refine pops_nil ?_ | refine pops_n rfl ?_ | refine pops_w' rfl rfl ?_)
    | (show runGo ..; first | (refine run_bs rfl rfl ?_; first | refine on_new ?_ | (refine on_put ?_; refine put_box ?_)) | refine run_ev rfl rfl ?_ | refine run_call rfl ?_)
    | (show goOn ..; first | refine on_nop ?_ | refine on_new ?_ | refine on_put ?_ | refine on_born ?_ | refine on_grow ?_)
    | (show putGo ..; refine put_box ?_)
    | (show callGo ..; (refine call_pure (r := ?_) ?_ ?_; rotate_left 1; (focus first | exact g0)))
    | (show wGo ..; first | refine gw_tt ?_ | refine gw_ff ?_ | refine gw_tf ?_ | refine gw_ft ?_ | refine gw_u ?_ | refine gw_tn (fun _ => ?_) (fun _ => ?_) | refine gw_fn (fun _ => ?_) (fun _ => ?_) | refine gw_tb (fun _ => ?_) (fun _ => ?_) | refine gw_fb (fun _ => ?_) (fun _ => ?_))
    | (show dr ..; first | refine dr_nil ?_ | refine dr_n rfl ?_ | refine dr_w' rfl rfl ?_)
    | (show drGo ..; first | refine dr_nw rfl ?_ | refine dr_ev rfl ?_ | refine dr_call rfl ?_)
    | (show drOn ..; first | refine dn_nop ?_ | refine dn_new ?_ | refine dn_put ?_ | refine dn_born ?_ | refine dn_grow ?_)
    | (show dputGo ..; refine dput_box ?_)
    | (show dcallGo ..; (refine dcall_pure (r := ?_) ?_ ?_; rotate_left 1; (focus first | exact g0)))
    | (refine And.intro (by kernel_rfl : okAll _ = true) ?_)
    | (show pwCode ..; first | refine pc_seq ?_ | refine pc_region ?_ | refine pc_ret ?_ | refine pc_skip ?_ | refine pc_block ?_ | refine pc_exit ?_ | refine pc_cond ?_)
    | (show condGo ..; first | refine cd_t ?_ | refine cd_f ?_ | refine cd_n (fun _ => ?_) (fun _ => ?_) | refine cd_b (fun _ => ?_) (fun _ => ?_))
    | refine th_normal ?_
    | refine th_ret ?_
    | refine th_exit ?_
    | refine th_pan ?_
    | refine bl_normal ?_
    | refine bl_exit ?_
    | refine bl_pass rfl ?_
    | refine bl_ret ?_
    | refine bl_pan ?_
    | (show retQ ..; first | refine rt_ret ?_ | refine rt_normal ?_)
    | refine rs_some ?_)
    all_goals exact fz_same (by simp only [go_sem])
  | true =>
  rw [h1] at g0
  have hm := (mapOne_iff m).1 h1
  have hcon := con_mp hM hM l hl 70 (fun x => has m x.va || has x m.va) (by kernel_rfl) (fun x _ => put1 m x)
  rw [any_meets h hm] at hcon
  rw [← H3_eq _ (Mp.enc Mp.zero)] at hcon
  cases h2 : l.any (meetM m) with
  | true =>
    have hp : putM l m = (l, 12) := by unfold putM; rw [if_pos h1, if_pos h2]
    rw [hp]
    rw [h2] at hcon
    clear hp
    refine pureF (by kernel_rfl) (by simp only [go_sem, *]) Try.func21 Try.results21 rfl (by simp [Try.ntmps21]) (by kernel_rfl) ?_
    repeat' (first
    | (show pwOps ..; first | refine pops_nil ?_ | refine pops_n rfl ?_ | refine pops_w' rfl rfl ?_)
    | (show runGo ..; first | (refine run_bs rfl rfl ?_; first | refine on_new ?_ | (refine on_put ?_; refine put_box ?_)) | refine run_ev rfl rfl ?_ | refine run_call rfl ?_)
    | (show goOn ..; first | refine on_nop ?_ | refine on_new ?_ | refine on_put ?_ | refine on_born ?_ | refine on_grow ?_)
    | (show putGo ..; refine put_box ?_)
    | (show callGo ..; (refine call_pure (r := ?_) ?_ ?_; rotate_left 1; (focus first | exact g0)))
    | (show wGo ..; first | refine gw_tt ?_ | refine gw_ff ?_ | refine gw_tf ?_ | refine gw_ft ?_ | refine gw_u ?_ | refine gw_tn (fun _ => ?_) (fun _ => ?_) | refine gw_fn (fun _ => ?_) (fun _ => ?_) | refine gw_tb (fun _ => ?_) (fun _ => ?_) | refine gw_fb (fun _ => ?_) (fun _ => ?_))
    | (show dr ..; first | refine dr_nil ?_ | refine dr_n rfl ?_ | refine dr_w' rfl rfl ?_)
    | (show drGo ..; first | refine dr_nw rfl ?_ | refine dr_ev rfl ?_ | refine dr_call rfl ?_)
    | (show drOn ..; first | refine dn_nop ?_ | refine dn_new ?_ | refine dn_put ?_ | refine dn_born ?_ | refine dn_grow ?_)
    | (show dputGo ..; refine dput_box ?_)
    | (show dcallGo ..; (refine dcall_pure (r := ?_) ?_ ?_; rotate_left 1; (focus first | exact g0)))
    | (refine And.intro (by kernel_rfl : okAll _ = true) ?_)
    | (show pwCode ..; first | refine pc_seq ?_ | refine pc_region ?_ | refine pc_ret ?_ | refine pc_skip ?_ | refine pc_block ?_ | refine pc_exit ?_ | refine pc_cond ?_)
    | (show condGo ..; first | refine cd_t ?_ | refine cd_f ?_ | refine cd_n (fun _ => ?_) (fun _ => ?_) | refine cd_b (fun _ => ?_) (fun _ => ?_))
    | refine th_normal ?_
    | refine th_ret ?_
    | refine th_exit ?_
    | refine th_pan ?_
    | refine bl_normal ?_
    | refine bl_exit ?_
    | refine bl_pass rfl ?_
    | refine bl_ret ?_
    | refine bl_pan ?_
    | (show retQ ..; first | refine rt_ret ?_ | refine rt_normal ?_)
    | refine rs_some ?_)
    (refine call_csat (by kernel_rfl) (hcon) ?_ ?_)
    case refine_2 => rintro p H' m' ⟨h, _⟩; cases h
    rintro r H' m' ⟨h', hm', hH'⟩
    cases h'
    clear hcon
    repeat' (first
    | (show pwOps ..; first | refine pops_nil ?_ | refine pops_n rfl ?_ | refine pops_w' rfl rfl ?_)
    | (show runGo ..; first | (refine run_bs rfl rfl ?_; first | refine on_new ?_ | (refine on_put ?_; refine put_box ?_)) | refine run_ev rfl rfl ?_ | refine run_call rfl ?_)
    | (show goOn ..; first | refine on_nop ?_ | refine on_new ?_ | refine on_put ?_ | refine on_born ?_ | refine on_grow ?_)
    | (show putGo ..; refine put_box ?_)
    | (show wGo ..; first | refine gw_tt ?_ | refine gw_ff ?_ | refine gw_tf ?_ | refine gw_ft ?_ | refine gw_u ?_ | refine gw_tn (fun _ => ?_) (fun _ => ?_) | refine gw_fn (fun _ => ?_) (fun _ => ?_) | refine gw_tb (fun _ => ?_) (fun _ => ?_) | refine gw_fb (fun _ => ?_) (fun _ => ?_))
    | (show dr ..; first | refine dr_nil ?_ | refine dr_n rfl ?_ | refine dr_w' rfl rfl ?_)
    | (show drGo ..; first | refine dr_nw rfl ?_ | refine dr_ev rfl ?_ | refine dr_call rfl ?_)
    | (show drOn ..; first | refine dn_nop ?_ | refine dn_new ?_ | refine dn_put ?_ | refine dn_born ?_ | refine dn_grow ?_)
    | (show dputGo ..; refine dput_box ?_)
    | (refine And.intro (by kernel_rfl : okAll _ = true) ?_)
    | (show pwCode ..; first | refine pc_seq ?_ | refine pc_region ?_ | refine pc_ret ?_ | refine pc_skip ?_ | refine pc_block ?_ | refine pc_exit ?_ | refine pc_cond ?_)
    | (show condGo ..; first | refine cd_t ?_ | refine cd_f ?_ | refine cd_n (fun _ => ?_) (fun _ => ?_) | refine cd_b (fun _ => ?_) (fun _ => ?_))
    | refine th_normal ?_
    | refine th_ret ?_
    | refine th_exit ?_
    | refine th_pan ?_
    | refine bl_normal ?_
    | refine bl_exit ?_
    | refine bl_pass rfl ?_
    | refine bl_ret ?_
    | refine bl_pan ?_
    | (show retQ ..; first | refine rt_ret ?_ | refine rt_normal ?_)
    | refine rs_some ?_)
    all_goals exact fz_same (by simp only [go_sem])
  | false =>
  rw [h2] at hcon
  rcases Nat.lt_or_ge l.length 16 with h3 | h3
  · have hp : putM l m = (l.take (posF Mp.va l m.va) ++ m :: l.drop (posF Mp.va l m.va), 0) := by unfold putM; rw [if_pos h1, if_neg (by rw [h2]; simp), if_neg (by omega)]; rfl
    rw [hp]
    have hat := at_va l m.va hl (fit_va h)
    have hpl := posF_le Mp.va l m.va
    generalize posF Mp.va l m.va = k at hat hpl
    clear hp
    have h4 : decide ((l.length : Int) ≥ 16) = false := decide_eq_false (by omega)
    refine pureF (by kernel_rfl) (by simp only [go_sem, *]) Try.func21 Try.results21 rfl (by simp [Try.ntmps21]) (by kernel_rfl) ?_
    repeat' (first
    | (show pwOps ..; first | refine pops_nil ?_ | refine pops_n rfl ?_ | refine pops_w' rfl rfl ?_)
    | (show runGo ..; first | (refine run_bs rfl rfl ?_; first | refine on_new ?_ | (refine on_put ?_; refine put_box ?_)) | refine run_ev rfl rfl ?_ | refine run_call rfl ?_)
    | (show goOn ..; first | refine on_nop ?_ | refine on_new ?_ | refine on_put ?_ | refine on_born ?_ | refine on_grow ?_)
    | (show putGo ..; refine put_box ?_)
    | (show callGo ..; (refine call_pure (r := ?_) ?_ ?_; rotate_left 1; (focus first | exact g0)))
    | (show wGo ..; first | refine gw_tt ?_ | refine gw_ff ?_ | refine gw_tf ?_ | refine gw_ft ?_ | refine gw_u ?_ | refine gw_tn (fun _ => ?_) (fun _ => ?_) | refine gw_fn (fun _ => ?_) (fun _ => ?_) | refine gw_tb (fun _ => ?_) (fun _ => ?_) | refine gw_fb (fun _ => ?_) (fun _ => ?_))
    | (show dr ..; first | refine dr_nil ?_ | refine dr_n rfl ?_ | refine dr_w' rfl rfl ?_)
    | (show drGo ..; first | refine dr_nw rfl ?_ | refine dr_ev rfl ?_ | refine dr_call rfl ?_)
    | (show drOn ..; first | refine dn_nop ?_ | refine dn_new ?_ | refine dn_put ?_ | refine dn_born ?_ | refine dn_grow ?_)
    | (show dputGo ..; refine dput_box ?_)
    | (show dcallGo ..; (refine dcall_pure (r := ?_) ?_ ?_; rotate_left 1; (focus first | exact g0)))
    | (refine And.intro (by kernel_rfl : okAll _ = true) ?_)
    | (show pwCode ..; first | refine pc_seq ?_ | refine pc_region ?_ | refine pc_ret ?_ | refine pc_skip ?_ | refine pc_block ?_ | refine pc_exit ?_ | refine pc_cond ?_)
    | (show condGo ..; first | refine cd_t ?_ | refine cd_f ?_ | refine cd_n (fun _ => ?_) (fun _ => ?_) | refine cd_b (fun _ => ?_) (fun _ => ?_))
    | refine th_normal ?_
    | refine th_ret ?_
    | refine th_exit ?_
    | refine th_pan ?_
    | refine bl_normal ?_
    | refine bl_exit ?_
    | refine bl_pass rfl ?_
    | refine bl_ret ?_
    | refine bl_pan ?_
    | (show retQ ..; first | refine rt_ret ?_ | refine rt_normal ?_)
    | refine rs_some ?_)
    (refine call_csat (by kernel_rfl) (hcon) ?_ ?_)
    case refine_2 => rintro p H' m' ⟨h, _⟩; cases h
    rintro r H' m' ⟨h', hm', hH'⟩
    cases h'
    clear hcon
    have hb0 : H' 0 = some (.box (Mp.enc m)) := by rw [hH' 0 (by omega), H3_eq, heapL_cons, if_pos rfl]
    clear hH'
    have q0 : (0 = m') = False := eq_false (by omega)
    have q1 : (m' = 0) = False := eq_false (by omega)
    have q2 : (m' = m' + 1) = False := eq_false (by omega)
    have q3 : (0 = m' + 1) = False := eq_false (by omega)
    have q4 : (m' + 1 = m') = False := eq_false (by omega)
    repeat' (first
    | (show pwOps ..; first | refine pops_nil ?_ | refine pops_n rfl ?_ | refine pops_w' rfl rfl ?_)
    | (show runGo ..; first | (refine run_bs rfl rfl ?_; first | refine on_new ?_ | (refine on_put ?_; refine put_box ?_)) | refine run_ev rfl rfl ?_ | refine run_call rfl ?_)
    | (show goOn ..; first | refine on_nop ?_ | refine on_new ?_ | refine on_put ?_ | refine on_born ?_ | refine on_grow ?_)
    | (show putGo ..; refine put_box ?_)
    | (show wGo ..; first | refine gw_tt ?_ | refine gw_ff ?_ | refine gw_tf ?_ | refine gw_ft ?_ | refine gw_u ?_ | refine gw_tn (fun _ => ?_) (fun _ => ?_) | refine gw_fn (fun _ => ?_) (fun _ => ?_) | refine gw_tb (fun _ => ?_) (fun _ => ?_) | refine gw_fb (fun _ => ?_) (fun _ => ?_))
    | (show dr ..; first | refine dr_nil ?_ | refine dr_n rfl ?_ | refine dr_w' rfl rfl ?_)
    | (show drGo ..; first | refine dr_nw rfl ?_ | refine dr_ev rfl ?_ | refine dr_call rfl ?_)
    | (show drOn ..; first | refine dn_nop ?_ | refine dn_new ?_ | refine dn_put ?_ | refine dn_born ?_ | refine dn_grow ?_)
    | (show dputGo ..; refine dput_box ?_)
    | (refine And.intro (by kernel_rfl : okAll _ = true) ?_)
    | (show pwCode ..; first | refine pc_seq ?_ | refine pc_region ?_ | refine pc_ret ?_ | refine pc_skip ?_ | refine pc_block ?_ | refine pc_exit ?_ | refine pc_cond ?_)
    | (show condGo ..; first | refine cd_t ?_ | refine cd_f ?_ | refine cd_n (fun _ => ?_) (fun _ => ?_) | refine cd_b (fun _ => ?_) (fun _ => ?_))
    | refine th_normal ?_
    | refine th_ret ?_
    | refine th_exit ?_
    | refine th_pan ?_
    | refine bl_normal ?_
    | refine bl_exit ?_
    | refine bl_pass rfl ?_
    | refine bl_ret ?_
    | refine bl_pan ?_
    | (show retQ ..; first | refine rt_ret ?_ | refine rt_normal ?_)
    | refine rs_some ?_)
    refine pc_drawL 8 (by kernel_rfl) (by kernel_rfl) ?_
    simp only [List.take_succ_cons, List.take_zero, List.drop_succ_cons, List.drop_zero]
    by_cases hnil : l = []
    · subst hnil
      obtain rfl : k = 0 := by simpa using hpl
      repeat' (first
    | (show pwOps ..; first | refine pops_nil ?_ | refine pops_n rfl ?_ | refine pops_w' rfl rfl ?_)
    | (show runGo ..; first | (refine run_bs rfl rfl ?_; first | refine on_new ?_ | (refine on_put ?_; refine put_box ?_)) | refine run_ev rfl rfl ?_ | refine run_call rfl ?_)
    | (show goOn ..; first | refine on_nop ?_ | refine on_new ?_ | refine on_put ?_ | refine on_born ?_ | refine on_grow ?_)
    | (show putGo ..; refine put_box ?_)
    | (show callGo ..; (refine call_pure (r := ?_) ?_ ?_; rotate_left 1; (focus first | exact clone_nil | exact hat)))
    | (show wGo ..; first | refine gw_tt ?_ | refine gw_ff ?_ | refine gw_tf ?_ | refine gw_ft ?_ | refine gw_u ?_ | refine gw_tn (fun _ => ?_) (fun _ => ?_) | refine gw_fn (fun _ => ?_) (fun _ => ?_) | refine gw_tb (fun _ => ?_) (fun _ => ?_) | refine gw_fb (fun _ => ?_) (fun _ => ?_))
    | (show dr ..; first | refine dr_nil ?_ | refine dr_n rfl ?_ | refine dr_w' rfl rfl ?_)
    | (show drGo ..; first | refine dr_nw rfl ?_ | refine dr_ev rfl ?_ | refine dr_call rfl ?_)
    | (show drOn ..; first | refine dn_nop ?_ | refine dn_new ?_ | refine dn_put ?_ | refine dn_born ?_ | refine dn_grow ?_)
    | (show dputGo ..; refine dput_box ?_)
    | (show dcallGo ..; (refine dcall_pure (r := ?_) ?_ ?_; rotate_left 1; (focus first | exact clone_nil | exact hat)))
    | (refine And.intro (by kernel_rfl : okAll _ = true) ?_)
    | (show pwCode ..; first | refine pc_seq ?_ | refine pc_region ?_ | refine pc_ret ?_ | refine pc_skip ?_ | refine pc_block ?_ | refine pc_exit ?_ | refine pc_cond ?_)
    | (show condGo ..; first | refine cd_t ?_ | refine cd_f ?_ | refine cd_n (fun _ => ?_) (fun _ => ?_) | refine cd_b (fun _ => ?_) (fun _ => ?_))
    | refine th_normal ?_
    | refine th_ret ?_
    | refine th_exit ?_
    | refine th_pan ?_
    | refine bl_normal ?_
    | refine bl_exit ?_
    | refine bl_pass rfl ?_
    | refine bl_ret ?_
    | refine bl_pan ?_
    | (show retQ ..; first | refine rt_ret ?_ | refine rt_normal ?_)
    | refine rs_some ?_)
      (refine call_csat (by kernel_rfl) (ins_nil rfl m (by simp only [go_sem])) ?_ ?_)
      case refine_2 => rintro p H' m' ⟨h, _⟩; cases h
      rintro r H' m' ⟨h', rfl, rfl⟩
      cases h'
      repeat' (first
    | (show pwOps ..; first | refine pops_nil ?_ | refine pops_n rfl ?_ | refine pops_w' rfl rfl ?_)
    | (show runGo ..; first | (refine run_bs rfl rfl ?_; first | refine on_new ?_ | (refine on_put ?_; refine put_box ?_)) | refine run_ev rfl rfl ?_ | refine run_call rfl ?_)
    | (show goOn ..; first | refine on_nop ?_ | refine on_new ?_ | refine on_put ?_ | refine on_born ?_ | refine on_grow ?_)
    | (show putGo ..; refine put_box ?_)
    | (show wGo ..; first | refine gw_tt ?_ | refine gw_ff ?_ | refine gw_tf ?_ | refine gw_ft ?_ | refine gw_u ?_ | refine gw_tn (fun _ => ?_) (fun _ => ?_) | refine gw_fn (fun _ => ?_) (fun _ => ?_) | refine gw_tb (fun _ => ?_) (fun _ => ?_) | refine gw_fb (fun _ => ?_) (fun _ => ?_))
    | (show dr ..; first | refine dr_nil ?_ | refine dr_n rfl ?_ | refine dr_w' rfl rfl ?_)
    | (show drGo ..; first | refine dr_nw rfl ?_ | refine dr_ev rfl ?_ | refine dr_call rfl ?_)
    | (show drOn ..; first | refine dn_nop ?_ | refine dn_new ?_ | refine dn_put ?_ | refine dn_born ?_ | refine dn_grow ?_)
    | (show dputGo ..; refine dput_box ?_)
    | (refine And.intro (by kernel_rfl : okAll _ = true) ?_)
    | (show pwCode ..; first | refine pc_seq ?_ | refine pc_region ?_ | refine pc_ret ?_ | refine pc_skip ?_ | refine pc_block ?_ | refine pc_exit ?_ | refine pc_cond ?_)
    | (show condGo ..; first | refine cd_t ?_ | refine cd_f ?_ | refine cd_n (fun _ => ?_) (fun _ => ?_) | refine cd_b (fun _ => ?_) (fun _ => ?_))
    | refine th_normal ?_
    | refine th_ret ?_
    | refine th_exit ?_
    | refine th_pan ?_
    | refine bl_normal ?_
    | refine bl_exit ?_
    | refine bl_pass rfl ?_
    | refine bl_ret ?_
    | refine bl_pan ?_
    | (show retQ ..; first | refine rt_ret ?_ | refine rt_normal ?_)
    | refine rs_some ?_)
      refine ⟨_, rfl, fz_tup2 (fz_bs szMp (by (try simp only [go_sem, *]); try rfl) (by simp) (mp_rows _) (by simp) (by simp only [go_sem])) (.same _ (by simp only [go_sem]))⟩
    · repeat' (first
    | (show pwOps ..; first | refine pops_nil ?_ | refine pops_n rfl ?_ | refine pops_w' rfl rfl ?_)
    | (show runGo ..; first | (refine run_bs rfl rfl ?_; first | refine on_new ?_ | (refine on_put ?_; refine put_box ?_)) | refine run_ev rfl rfl ?_ | refine run_call rfl ?_)
    | (show goOn ..; first | refine on_nop ?_ | refine on_new ?_ | refine on_put ?_ | refine on_born ?_ | refine on_grow ?_)
    | (show putGo ..; refine put_box ?_)
    | (show callGo ..; (refine call_pure (r := ?_) ?_ ?_; rotate_left 1; (focus first | exact hat)))
    | (show wGo ..; first | refine gw_tt ?_ | refine gw_ff ?_ | refine gw_tf ?_ | refine gw_ft ?_ | refine gw_u ?_ | refine gw_tn (fun _ => ?_) (fun _ => ?_) | refine gw_fn (fun _ => ?_) (fun _ => ?_) | refine gw_tb (fun _ => ?_) (fun _ => ?_) | refine gw_fb (fun _ => ?_) (fun _ => ?_))
    | (show dr ..; first | refine dr_nil ?_ | refine dr_n rfl ?_ | refine dr_w' rfl rfl ?_)
    | (show drGo ..; first | refine dr_nw rfl ?_ | refine dr_ev rfl ?_ | refine dr_call rfl ?_)
    | (show drOn ..; first | refine dn_nop ?_ | refine dn_new ?_ | refine dn_put ?_ | refine dn_born ?_ | refine dn_grow ?_)
    | (show dputGo ..; refine dput_box ?_)
    | (show dcallGo ..; first | (refine dcall_pure (r := ?_) ?_ ?_; rotate_left 1; (focus first | exact hat)) | refine dcall_new (clone_born hcl (els := l.map Mp.enc) (mp_rows l) (by simpa using hl) (by simpa using hnil)) ?_)
    | (refine And.intro (by kernel_rfl : okAll _ = true) ?_)
    | (show pwCode ..; first | refine pc_seq ?_ | refine pc_region ?_ | refine pc_ret ?_ | refine pc_skip ?_ | refine pc_block ?_ | refine pc_exit ?_ | refine pc_cond ?_)
    | (show condGo ..; first | refine cd_t ?_ | refine cd_f ?_ | refine cd_n (fun _ => ?_) (fun _ => ?_) | refine cd_b (fun _ => ?_) (fun _ => ?_))
    | refine th_normal ?_
    | refine th_ret ?_
    | refine th_exit ?_
    | refine th_pan ?_
    | refine bl_normal ?_
    | refine bl_exit ?_
    | refine bl_pass rfl ?_
    | refine bl_ret ?_
    | refine bl_pan ?_
    | (show retQ ..; first | refine rt_ret ?_ | refine rt_normal ?_)
    | refine rs_some ?_)
      (refine call_csat (by kernel_rfl) (ins_mp hins hpl m hl (by simp only [go_sem, *]) (by simp only [go_sem, *]) (by omega)) ?_ ?_)
      case refine_2 => rintro p H' m' (⟨h, _⟩ | ⟨h, _⟩) <;> cases h
      rintro r H' m' (⟨h', rfl, rfl⟩ | ⟨h', rfl, rfl⟩)
      all_goals cases h'
      all_goals repeat' (first
    | (show pwOps ..; first | refine pops_nil ?_ | refine pops_n rfl ?_ | refine pops_w' rfl rfl ?_)
    | (show runGo ..; first | (refine run_bs rfl rfl ?_; first | refine on_new ?_ | (refine on_put ?_; refine put_box ?_)) | refine run_ev rfl rfl ?_ | refine run_call rfl ?_)
    | (show goOn ..; first | refine on_nop ?_ | refine on_new ?_ | refine on_put ?_ | refine on_born ?_ | refine on_grow ?_)
    | (show putGo ..; refine put_box ?_)
    | (show wGo ..; first | refine gw_tt ?_ | refine gw_ff ?_ | refine gw_tf ?_ | refine gw_ft ?_ | refine gw_u ?_ | refine gw_tn (fun _ => ?_) (fun _ => ?_) | refine gw_fn (fun _ => ?_) (fun _ => ?_) | refine gw_tb (fun _ => ?_) (fun _ => ?_) | refine gw_fb (fun _ => ?_) (fun _ => ?_))
    | (show dr ..; first | refine dr_nil ?_ | refine dr_n rfl ?_ | refine dr_w' rfl rfl ?_)
    | (show drGo ..; first | refine dr_nw rfl ?_ | refine dr_ev rfl ?_ | refine dr_call rfl ?_)
    | (show drOn ..; first | refine dn_nop ?_ | refine dn_new ?_ | refine dn_put ?_ | refine dn_born ?_ | refine dn_grow ?_)
    | (show dputGo ..; refine dput_box ?_)
    | (refine And.intro (by kernel_rfl : okAll _ = true) ?_)
    | (show pwCode ..; first | refine pc_seq ?_ | refine pc_region ?_ | refine pc_ret ?_ | refine pc_skip ?_ | refine pc_block ?_ | refine pc_exit ?_ | refine pc_cond ?_)
    | (show condGo ..; first | refine cd_t ?_ | refine cd_f ?_ | refine cd_n (fun _ => ?_) (fun _ => ?_) | refine cd_b (fun _ => ?_) (fun _ => ?_))
    | refine th_normal ?_
    | refine th_ret ?_
    | refine th_exit ?_
    | refine th_pan ?_
    | refine bl_normal ?_
    | refine bl_exit ?_
    | refine bl_pass rfl ?_
    | refine bl_ret ?_
    | refine bl_pan ?_
    | (show retQ ..; first | refine rt_ret ?_ | refine rt_normal ?_)
    | refine rs_some ?_)
      all_goals (refine ⟨_, rfl, fz_tup2 (fz_bs szMp (by (try simp only [go_sem, *]); try rfl) (by simp) (mp_rows _) (by simp) (by simp only [go_sem])) (.same _ (by simp only [go_sem]))⟩)
  · have hp : putM l m = (l, 6) := by unfold putM; rw [if_pos h1, if_neg (by rw [h2]; simp), if_pos h3]
    rw [hp]
    clear hp
    have h4 : decide ((l.length : Int) ≥ 16) = true := decide_eq_true (by omega)
    refine pureF (by kernel_rfl) (by simp only [go_sem, *]) Try.func21 Try.results21 rfl (by simp [Try.ntmps21]) (by kernel_rfl) ?_
    repeat' (first
    | (show pwOps ..; first | refine pops_nil ?_ | refine pops_n rfl ?_ | refine pops_w' rfl rfl ?_)
    | (show runGo ..; first | (refine run_bs rfl rfl ?_; first | refine on_new ?_ | (refine on_put ?_; refine put_box ?_)) | refine run_ev rfl rfl ?_ | refine run_call rfl ?_)
    | (show goOn ..; first | refine on_nop ?_ | refine on_new ?_ | refine on_put ?_ | refine on_born ?_ | refine on_grow ?_)
    | (show putGo ..; refine put_box ?_)
    | (show callGo ..; (refine call_pure (r := ?_) ?_ ?_; rotate_left 1; (focus first | exact g0)))
    | (show wGo ..; first | refine gw_tt ?_ | refine gw_ff ?_ | refine gw_tf ?_ | refine gw_ft ?_ | refine gw_u ?_ | refine gw_tn (fun _ => ?_) (fun _ => ?_) | refine gw_fn (fun _ => ?_) (fun _ => ?_) | refine gw_tb (fun _ => ?_) (fun _ => ?_) | refine gw_fb (fun _ => ?_) (fun _ => ?_))
    | (show dr ..; first | refine dr_nil ?_ | refine dr_n rfl ?_ | refine dr_w' rfl rfl ?_)
    | (show drGo ..; first | refine dr_nw rfl ?_ | refine dr_ev rfl ?_ | refine dr_call rfl ?_)
    | (show drOn ..; first | refine dn_nop ?_ | refine dn_new ?_ | refine dn_put ?_ | refine dn_born ?_ | refine dn_grow ?_)
    | (show dputGo ..; refine dput_box ?_)
    | (show dcallGo ..; (refine dcall_pure (r := ?_) ?_ ?_; rotate_left 1; (focus first | exact g0)))
    | (refine And.intro (by kernel_rfl : okAll _ = true) ?_)
    | (show pwCode ..; first | refine pc_seq ?_ | refine pc_region ?_ | refine pc_ret ?_ | refine pc_skip ?_ | refine pc_block ?_ | refine pc_exit ?_ | refine pc_cond ?_)
    | (show condGo ..; first | refine cd_t ?_ | refine cd_f ?_ | refine cd_n (fun _ => ?_) (fun _ => ?_) | refine cd_b (fun _ => ?_) (fun _ => ?_))
    | refine th_normal ?_
    | refine th_ret ?_
    | refine th_exit ?_
    | refine th_pan ?_
    | refine bl_normal ?_
    | refine bl_exit ?_
    | refine bl_pass rfl ?_
    | refine bl_ret ?_
    | refine bl_pan ?_
    | (show retQ ..; first | refine rt_ret ?_ | refine rt_normal ?_)
    | refine rs_some ?_)
    (refine call_csat (by kernel_rfl) (hcon) ?_ ?_)
    case refine_2 => rintro p H' m' ⟨h, _⟩; cases h
    rintro r H' m' ⟨h', hm', hH'⟩
    cases h'
    clear hcon
    repeat' (first
    | (show pwOps ..; first | refine pops_nil ?_ | refine pops_n rfl ?_ | refine pops_w' rfl rfl ?_)
    | (show runGo ..; first | (refine run_bs rfl rfl ?_; first | refine on_new ?_ | (refine on_put ?_; refine put_box ?_)) | refine run_ev rfl rfl ?_ | refine run_call rfl ?_)
    | (show goOn ..; first | refine on_nop ?_ | refine on_new ?_ | refine on_put ?_ | refine on_born ?_ | refine on_grow ?_)
    | (show putGo ..; refine put_box ?_)
    | (show wGo ..; first | refine gw_tt ?_ | refine gw_ff ?_ | refine gw_tf ?_ | refine gw_ft ?_ | refine gw_u ?_ | refine gw_tn (fun _ => ?_) (fun _ => ?_) | refine gw_fn (fun _ => ?_) (fun _ => ?_) | refine gw_tb (fun _ => ?_) (fun _ => ?_) | refine gw_fb (fun _ => ?_) (fun _ => ?_))
    | (show dr ..; first | refine dr_nil ?_ | refine dr_n rfl ?_ | refine dr_w' rfl rfl ?_)
    | (show drGo ..; first | refine dr_nw rfl ?_ | refine dr_ev rfl ?_ | refine dr_call rfl ?_)
    | (show drOn ..; first | refine dn_nop ?_ | refine dn_new ?_ | refine dn_put ?_ | refine dn_born ?_ | refine dn_grow ?_)
    | (show dputGo ..; refine dput_box ?_)
    | (refine And.intro (by kernel_rfl : okAll _ = true) ?_)
    | (show pwCode ..; first | refine pc_seq ?_ | refine pc_region ?_ | refine pc_ret ?_ | refine pc_skip ?_ | refine pc_block ?_ | refine pc_exit ?_ | refine pc_cond ?_)
    | (show condGo ..; first | refine cd_t ?_ | refine cd_f ?_ | refine cd_n (fun _ => ?_) (fun _ => ?_) | refine cd_b (fun _ => ?_) (fun _ => ?_))
    | refine th_normal ?_
    | refine th_ret ?_
    | refine th_exit ?_
    | refine th_pan ?_
    | refine bl_normal ?_
    | refine bl_exit ?_
    | refine bl_pass rfl ?_
    | refine bl_ret ?_
    | refine bl_pan ?_
    | (show retQ ..; first | refine rt_ret ?_ | refine rt_normal ?_)
    | refine rs_some ?_)
    all_goals exact fz_same (by simp only [go_sem])
theorem pages_drop (l : List Mp) (va : Int) (h : FitM l) : Pure Try.prog 41 [.sl (l.map Mp.enc), .int .i64 va] (.tup [.sl ((dropM l va).1.map Mp.enc), .int .i64 (dropM l va).2]) := by
  have hl : l.length ≤ 1000000 := Nat.le_trans h.len (by decide)
  have hcl : CloneC Try.prog 73 52 szMp := cloneMp_calls
  have hdel : DeleteC Try.prog 103 52 szMp := fun l v k base w h1 h2 h3 => deleteMp_calls l v k base w h1 h2 h3
  have hat := at_va l va hl (fit_va h)
  have hle := posF_le Mp.va l va
  have hde := drop_eq h va
  generalize posF Mp.va l va = k at hat hle hde
  cases hlk : l[k]? with
  | none =>
    have hkl : k = l.length := by have := List.getElem?_eq_none_iff.1 hlk; omega
    rw [hlk] at hde
    simp only at hde
    rw [hde]
    have e2 : ((k : Int) == (l.length : Int)) = true := by simp [hkl]
    clear hde
    refine pureF (by kernel_rfl) (by simp only [go_sem, *]) Try.func41 Try.results41 rfl (by simp [Try.ntmps41]) (by kernel_rfl) ?_
    repeat' (first
    | (show pwOps ..; first | refine pops_nil ?_ | refine pops_n rfl ?_ | refine pops_w' rfl rfl ?_)
    | (show runGo ..; first | refine run_ev rfl rfl ?_ | refine run_call rfl ?_)
    | (show goOn ..; first | refine on_nop ?_ | refine on_new ?_ | refine on_put ?_ | refine on_born ?_ | refine on_grow ?_)
    | (show putGo ..; refine put_box ?_)
    | (show callGo ..; (refine call_pure (r := ?_) ?_ ?_; rotate_left 1; (focus first | exact hat)))
    | (show wGo ..; first | refine gw_tt ?_ | refine gw_ff ?_ | refine gw_tf ?_ | refine gw_ft ?_ | refine gw_u ?_ | refine gw_tn (fun _ => ?_) (fun _ => ?_) | refine gw_fn (fun _ => ?_) (fun _ => ?_) | refine gw_tb (fun _ => ?_) (fun _ => ?_) | refine gw_fb (fun _ => ?_) (fun _ => ?_))
    | (show dr ..; first | refine dr_nil ?_ | refine dr_n rfl ?_ | refine dr_w' rfl rfl ?_)
    | (show drGo ..; first | refine dr_ev rfl ?_ | refine dr_call rfl ?_)
    | (show drOn ..; first | refine dn_nop ?_ | refine dn_new ?_ | refine dn_put ?_ | refine dn_born ?_ | refine dn_grow ?_)
    | (show dputGo ..; refine dput_box ?_)
    | (show dcallGo ..; (refine dcall_pure (r := ?_) ?_ ?_; rotate_left 1; (focus first | exact hat)))
    | (refine And.intro (by kernel_rfl : okAll _ = true) ?_)
    | (show pwCode ..; first | refine pc_seq ?_ | refine pc_region ?_ | refine pc_draw (by kernel_rfl) ?_ | refine pc_ret ?_ | refine pc_skip ?_ | refine pc_block ?_ | refine pc_exit ?_ | refine pc_cond ?_)
    | (show condGo ..; first | refine cd_t ?_ | refine cd_f ?_ | refine cd_n (fun _ => ?_) (fun _ => ?_) | refine cd_b (fun _ => ?_) (fun _ => ?_))
    | refine th_normal ?_
    | refine th_ret ?_
    | refine th_exit ?_
    | refine th_pan ?_
    | refine bl_normal ?_
    | refine bl_exit ?_
    | refine bl_pass rfl ?_
    | refine bl_ret ?_
    | refine bl_pan ?_
    | (show retQ ..; first | refine rt_ret ?_ | refine rt_normal ?_)
    | refine rs_some ?_)
    all_goals exact fz_same (by simp only [go_sem])
  | some x =>
    have hk := len_lt hlk
    have e2 : ((k : Int) == (l.length : Int)) = false := by simp; omega
    rw [hlk] at hde
    simp only at hde
    cases hv : (x.va == va) with
    | false =>
      rw [if_neg (by rw [hv]; simp)] at hde
      rw [hde]
      have e3 : (x.va != va) = true := by simp [bne, hv]
      clear hde
      refine pureF (by kernel_rfl) (by simp only [go_sem, *]) Try.func41 Try.results41 rfl (by simp [Try.ntmps41]) (by kernel_rfl) ?_
      repeat' (first
    | (show pwOps ..; first | refine pops_nil ?_ | refine pops_n rfl ?_ | refine pops_w' rfl rfl ?_)
    | (show runGo ..; first | refine run_ev rfl rfl ?_ | refine run_call rfl ?_)
    | (show goOn ..; first | refine on_nop ?_ | refine on_new ?_ | refine on_put ?_ | refine on_born ?_ | refine on_grow ?_)
    | (show putGo ..; refine put_box ?_)
    | (show callGo ..; (refine call_pure (r := ?_) ?_ ?_; rotate_left 1; (focus first | exact hat)))
    | (show wGo ..; first | refine gw_tt ?_ | refine gw_ff ?_ | refine gw_tf ?_ | refine gw_ft ?_ | refine gw_u ?_ | refine gw_tn (fun _ => ?_) (fun _ => ?_) | refine gw_fn (fun _ => ?_) (fun _ => ?_) | refine gw_tb (fun _ => ?_) (fun _ => ?_) | refine gw_fb (fun _ => ?_) (fun _ => ?_))
    | (show dr ..; first | refine dr_nil ?_ | refine dr_n rfl ?_ | refine dr_w' rfl rfl ?_)
    | (show drGo ..; first | refine dr_ev rfl ?_ | refine dr_call rfl ?_)
    | (show drOn ..; first | refine dn_nop ?_ | refine dn_new ?_ | refine dn_put ?_ | refine dn_born ?_ | refine dn_grow ?_)
    | (show dputGo ..; refine dput_box ?_)
    | (show dcallGo ..; (refine dcall_pure (r := ?_) ?_ ?_; rotate_left 1; (focus first | exact hat)))
    | (refine And.intro (by kernel_rfl : okAll _ = true) ?_)
    | (show pwCode ..; first | refine pc_seq ?_ | refine pc_region ?_ | refine pc_draw (by kernel_rfl) ?_ | refine pc_ret ?_ | refine pc_skip ?_ | refine pc_block ?_ | refine pc_exit ?_ | refine pc_cond ?_)
    | (show condGo ..; first | refine cd_t ?_ | refine cd_f ?_ | refine cd_n (fun _ => ?_) (fun _ => ?_) | refine cd_b (fun _ => ?_) (fun _ => ?_))
    | refine th_normal ?_
    | refine th_ret ?_
    | refine th_exit ?_
    | refine th_pan ?_
    | refine bl_normal ?_
    | refine bl_exit ?_
    | refine bl_pass rfl ?_
    | refine bl_ret ?_
    | refine bl_pan ?_
    | (show retQ ..; first | refine rt_ret ?_ | refine rt_normal ?_)
    | refine rs_some ?_)
      all_goals exact fz_same (by simp only [go_sem])
    | true =>
      rw [if_pos hv] at hde
      rw [hde]
      have e3 : (x.va != va) = false := by simp [bne, hv]
      have h4 : IntKind.i64.wrap ((k : Int) + 1) = (k : Int) + 1 := by rw [IntKind.wrap_i64]; omega
      clear hde
      refine pureF (by kernel_rfl) (by simp only [go_sem, *]) Try.func41 Try.results41 rfl (by simp [Try.ntmps41]) (by kernel_rfl) ?_
      repeat' (first
    | (show pwOps ..; first | refine pops_nil ?_ | refine pops_n rfl ?_ | refine pops_w' rfl rfl ?_)
    | (show runGo ..; first | (refine run_bs rfl rfl ?_; first | refine on_new ?_ | (refine on_put ?_; refine put_box ?_)) | refine run_ev rfl rfl ?_ | refine run_call rfl ?_)
    | (show goOn ..; first | refine on_nop ?_ | refine on_new ?_ | refine on_put ?_ | refine on_born ?_ | refine on_grow ?_)
    | (show putGo ..; refine put_box ?_)
    | (show callGo ..; (refine call_pure (r := ?_) ?_ ?_; rotate_left 1; (focus first | exact hat)))
    | (show wGo ..; first | refine gw_tt ?_ | refine gw_ff ?_ | refine gw_tf ?_ | refine gw_ft ?_ | refine gw_u ?_ | refine gw_tn (fun _ => ?_) (fun _ => ?_) | refine gw_fn (fun _ => ?_) (fun _ => ?_) | refine gw_tb (fun _ => ?_) (fun _ => ?_) | refine gw_fb (fun _ => ?_) (fun _ => ?_))
    | (show dr ..; first | refine dr_nil ?_ | refine dr_n rfl ?_ | refine dr_w' rfl rfl ?_)
    | (show drGo ..; first | refine dr_nw rfl ?_ | refine dr_ev rfl ?_ | refine dr_call rfl ?_)
    | (show drOn ..; first | refine dn_nop ?_ | refine dn_new ?_ | refine dn_put ?_ | refine dn_born ?_ | refine dn_grow ?_)
    | (show dputGo ..; refine dput_box ?_)
    | (show dcallGo ..; (refine dcall_pure (r := ?_) ?_ ?_; rotate_left 1; (focus first | exact hat)))
    | (refine And.intro (by kernel_rfl : okAll _ = true) ?_)
    | (show pwCode ..; first | refine pc_seq ?_ | refine pc_region ?_ | refine pc_draw (by kernel_rfl) ?_ | refine pc_ret ?_ | refine pc_skip ?_ | refine pc_block ?_ | refine pc_exit ?_ | refine pc_cond ?_)
    | (show condGo ..; first | refine cd_t ?_ | refine cd_f ?_ | refine cd_n (fun _ => ?_) (fun _ => ?_) | refine cd_b (fun _ => ?_) (fun _ => ?_))
    | refine th_normal ?_
    | refine th_ret ?_
    | refine th_exit ?_
    | refine th_pan ?_
    | refine bl_normal ?_
    | refine bl_exit ?_
    | refine bl_pass rfl ?_
    | refine bl_ret ?_
    | refine bl_pan ?_
    | (show retQ ..; first | refine rt_ret ?_ | refine rt_normal ?_)
    | refine rs_some ?_)
      (refine call_csat (by kernel_rfl) (clone_csat hcl (els := l.map Mp.enc) (mp_rows l) (by simpa using hl) _ _) ?_ ?_)
      case refine_2 => rintro p H' m' (⟨_, h, _⟩ | ⟨h, _⟩) <;> cases h
      rintro r H' m' (⟨hnil, _⟩ | ⟨h', rfl, rfl⟩)
      · have : l = [] := by simpa using hnil
        subst this; simp at hk
      · cases h'
        repeat' (first
    | (show pwOps ..; first | refine pops_nil ?_ | refine pops_n rfl ?_ | refine pops_w' rfl rfl ?_)
    | (show runGo ..; first | (refine run_bs rfl rfl ?_; first | refine on_new ?_ | (refine on_put ?_; refine put_box ?_)) | refine run_ev rfl rfl ?_ | refine run_call rfl ?_)
    | (show goOn ..; first | refine on_nop ?_ | refine on_new ?_ | refine on_put ?_ | refine on_born ?_ | refine on_grow ?_)
    | (show putGo ..; refine put_box ?_)
    | (show wGo ..; first | refine gw_tt ?_ | refine gw_ff ?_ | refine gw_tf ?_ | refine gw_ft ?_ | refine gw_u ?_ | refine gw_tn (fun _ => ?_) (fun _ => ?_) | refine gw_fn (fun _ => ?_) (fun _ => ?_) | refine gw_tb (fun _ => ?_) (fun _ => ?_) | refine gw_fb (fun _ => ?_) (fun _ => ?_))
    | (show dr ..; first | refine dr_nil ?_ | refine dr_n rfl ?_ | refine dr_w' rfl rfl ?_)
    | (show drGo ..; first | refine dr_nw rfl ?_ | refine dr_ev rfl ?_ | refine dr_call rfl ?_)
    | (show drOn ..; first | refine dn_nop ?_ | refine dn_new ?_ | refine dn_put ?_ | refine dn_born ?_ | refine dn_grow ?_)
    | (show dputGo ..; refine dput_box ?_)
    | (refine And.intro (by kernel_rfl : okAll _ = true) ?_)
    | (show pwCode ..; first | refine pc_seq ?_ | refine pc_region ?_ | refine pc_draw (by kernel_rfl) ?_ | refine pc_ret ?_ | refine pc_skip ?_ | refine pc_block ?_ | refine pc_exit ?_ | refine pc_cond ?_)
    | (show condGo ..; first | refine cd_t ?_ | refine cd_f ?_ | refine cd_n (fun _ => ?_) (fun _ => ?_) | refine cd_b (fun _ => ?_) (fun _ => ?_))
    | refine th_normal ?_
    | refine th_ret ?_
    | refine th_exit ?_
    | refine th_pan ?_
    | refine bl_normal ?_
    | refine bl_exit ?_
    | refine bl_pass rfl ?_
    | refine bl_ret ?_
    | refine bl_pan ?_
    | (show retQ ..; first | refine rt_ret ?_ | refine rt_normal ?_)
    | refine rs_some ?_)
        (refine call_csat (by kernel_rfl) (del_mp hdel hk hl (by simp only [go_sem])) ?_ ?_)
        case refine_2 => rintro p H' m' ⟨h, _⟩; cases h
        rintro r H' m' ⟨h', rfl, rfl⟩
        cases h'
        repeat' (first
    | (show pwOps ..; first | refine pops_nil ?_ | refine pops_n rfl ?_ | refine pops_w' rfl rfl ?_)
    | (show runGo ..; first | (refine run_bs rfl rfl ?_; first | refine on_new ?_ | (refine on_put ?_; refine put_box ?_)) | refine run_ev rfl rfl ?_ | refine run_call rfl ?_)
    | (show goOn ..; first | refine on_nop ?_ | refine on_new ?_ | refine on_put ?_ | refine on_born ?_ | refine on_grow ?_)
    | (show putGo ..; refine put_box ?_)
    | (show wGo ..; first | refine gw_tt ?_ | refine gw_ff ?_ | refine gw_tf ?_ | refine gw_ft ?_ | refine gw_u ?_ | refine gw_tn (fun _ => ?_) (fun _ => ?_) | refine gw_fn (fun _ => ?_) (fun _ => ?_) | refine gw_tb (fun _ => ?_) (fun _ => ?_) | refine gw_fb (fun _ => ?_) (fun _ => ?_))
    | (show dr ..; first | refine dr_nil ?_ | refine dr_n rfl ?_ | refine dr_w' rfl rfl ?_)
    | (show drGo ..; first | refine dr_nw rfl ?_ | refine dr_ev rfl ?_ | refine dr_call rfl ?_)
    | (show drOn ..; first | refine dn_nop ?_ | refine dn_new ?_ | refine dn_put ?_ | refine dn_born ?_ | refine dn_grow ?_)
    | (show dputGo ..; refine dput_box ?_)
    | (refine And.intro (by kernel_rfl : okAll _ = true) ?_)
    | (show pwCode ..; first | refine pc_seq ?_ | refine pc_region ?_ | refine pc_draw (by kernel_rfl) ?_ | refine pc_ret ?_ | refine pc_skip ?_ | refine pc_block ?_ | refine pc_exit ?_ | refine pc_cond ?_)
    | (show condGo ..; first | refine cd_t ?_ | refine cd_f ?_ | refine cd_n (fun _ => ?_) (fun _ => ?_) | refine cd_b (fun _ => ?_) (fun _ => ?_))
    | refine th_normal ?_
    | refine th_ret ?_
    | refine th_exit ?_
    | refine th_pan ?_
    | refine bl_normal ?_
    | refine bl_exit ?_
    | refine bl_pass rfl ?_
    | refine bl_ret ?_
    | refine bl_pan ?_
    | (show retQ ..; first | refine rt_ret ?_ | refine rt_normal ?_)
    | refine rs_some ?_)
        refine ⟨_, rfl, fz_tup2 (fz_bs szMp (by (try simp only [go_sem]); try rfl) (by rw [List.length_map]) (mp_rows _) rfl (by simp only [go_sem])) (.same _ (by simp only [go_sem]))⟩
end Go.Proofs.Ytggkjfllbfcagaa
