import Derived.Test.YteibeoipnjhicaaGreatEm3
namespace Go.Proofs.YteibeoipnjhicaaGreat
open Go Go.RowKit
set_option linter.unusedVariables false
set_option linter.unusedSimpArgs false
set_option maxHeartbeats 16000000
set_option maxRecDepth 100000
theorem U_nat {n : Int} (h : U n) : ∃ k : Nat, k ≤ 18446744073709551615 ∧ n = (k : Int) := by
  have h1 : IntKind.u64.min = 0 := by decide
  have h2 : IntKind.u64.max = 18446744073709551615 := by decide
  unfold U at h
  exact ⟨n.toNat, by omega, by omega⟩
theorem walk_zero {w : Wd} {t : Ob} {k : Nat} (h : ((q2v w t k).2 == 0) = false) : (q2v w t k).1 = (Ob.zero, 0, false) := by
  unfold q2v at h ⊢
  split at h
  · rename_i h1
    rw [if_pos h1]
    generalize (seeR w t t.thread.space 3).1.maps = l at h ⊢
    unfold placeOf at h ⊢
    split at h
    · rename_i h2
      rw [if_pos h2]
      split at h
      · rename_i h3
        rw [if_pos h3]
        split at h
        · rename_i h4; rw [if_pos h4]
        · simp at h
      · rename_i h3; rw [if_neg h3]
    · rename_i h2; rw [if_neg h2]
  · rename_i h1; rw [if_neg h1]
theorem walk_L {w : Wd} (lw : w.L) (hf : FewW w) (hw : fitW w = true) (t : Ob) (k : Nat) : (q2v w t k).1.1.L := by
  cases h : ((q2v w t k).2 == 0) with
  | false => rw [walk_zero h]; exact zeroObL
  | true => exact (lw.2 _ (q5x hf hw h).mem).1
theorem setO_L {o : Ob} (h : o.L) (a v : Int) : (setO o a v).L := by
  obtain ⟨h1, h2, h3, h4, h5, h6, h7, h8⟩ := h
  exact ⟨h1, h2, by show (o.data.set _ _).length ≤ _; rw [List.length_set]; exact h3, h4, h5, h6, h7, h8⟩
theorem store_no {w : Wd} {t : Ob} {k : Nat} {v : Int} (h : q3t w t k = false) : q3c w t k v = (w, false) := by
  unfold q3c; rw [h]; rfl
theorem q4i {w : Wd} {t : Ob} {k : Nat} {v : Int} (h : q3t w t k = true) : q3c w t k v = (w.ins (setO (q2v w t k).1.1 (q2v w t k).1.2.1 v), true) := by
  unfold q3c; rw [h]; rfl
theorem may_ok {w : Wd} {t : Ob} {k : Nat} (hf : FewW w) (hw : fitW w = true) (h : q3t w t k = true) : WalkOk w t (q2v w t k).1 ∧ ((q2v w t k).2 == 0) = true := by
  unfold q3t at h
  rw [Bool.and_eq_true] at h
  exact ⟨q5x hf hw h.1, h.1⟩
structure Good (x : Wd) : Prop where
  L : x.L
  few : FewW x
  fit : fitW x = true
theorem set_good {w : Wd} (g : Good w) {o : Ob} (ho : o ∈ w.objects) (hk : (o.kind == 1) = true) (a v : Int) : Good (w.ins (setO o a v)) := by
  have hwd := q5m g.fit
  have hs := fit_sound hwd ho
  refine ⟨ins_L g.L (setO_L (g.L.2 o ho).1 a v) (g.L.2 o ho).2 (by have := g.few.n; omega), one_few g.few hwd ho (setO_hd o a v) (g.few.ob o ho).2.2.2, one_fit g.fit ho (setO_hd o a v) (setO_sound a v hk hs)⟩
theorem store_good {w : Wd} (g : Good w) (t : Ob) (k : Nat) (v : Int) : Good (q3c w t k v).1 := by
  cases h : q3t w t k with
  | false => rw [store_no h]; exact g
  | true =>
    rw [q4i h]
    obtain ⟨a, b⟩ := may_ok g.few g.fit h
    exact set_good g a.mem a.kind _ _
theorem set_rep {w : Wd} (hwd : q5c w = true) {o : Ob} (ho : o ∈ w.objects) (a v : Int) : Rep w (w.ins (setO o a v)) (one o (setO o a v)) := one_rep hwd ho (setO_hd o a v)
theorem set_walk {w : Wd} (hwd : q5c w = true) {o : Ob} (ho : o ∈ w.objects) (a v : Int) (u : Ob) (k : Nat) : q2v (w.ins (setO o a v)) u k = ((one o (setO o a v) (q2v w u k).1.1, (q2v w u k).1.2.1, (q2v w u k).1.2.2), (q2v w u k).2) :=
  rep_walk (set_rep hwd ho a v) (one_maps rfl) u k
def ex18t : Ob := { Ob.zero with id := 9, kind := 4, quota := 1 }
theorem ex18_w : q2v ex17w ex18t 5 = ((Ob.zero, 0, false), 1) := by rfl
attribute [local irreducible] q0x dr q0g Ex.then Ex.inBlock retQ q1x q3g q3e Pure CSat evOp q2o rdOf upd hset strip sp0 cut envL q2u q4j Keep BdL evBs q3m q4g
theorem law18_awake : Pure Tryz.prog 36 [] (.bool true) := by
  have h1 := mem_load ex17w ex18t 5 (by decide) ex17_few ex17_fit (fun h => by rw [ex18_w] at h; cases h) (by decide +kernel) (by decide)
  have h2 := memWalk ex17w ex18t 5 (by decide) ex17_few ex17_fit (by decide +kernel) (by decide)
  have e5 : q5z ex17w ex18t 5 = (0, false) := by unfold q5z; rw [ex18_w]; rfl
  rw [e5] at h1
  rw [ex18_w] at h2
  simp only at h1 h2
  have e : ((5 : Nat) : Int) = 5 := rfl
  rw [e] at h1 h2
  unfold ex17w ex18t at h1 h2
  refine q2i (by kernel_rfl) (by simp only [go_sem, *]) (by simp only [go_sem, *]) Tryz.func36 Tryz.results36 rfl (by simp [Tryz.ntmps36]) (by kernel_rfl) ?_
  repeat' (first | (show q0x ..; first | refine q0d ?_ | refine q0p rfl ?_ | refine q0z rfl rfl ?_) | (show q1d ..; first | refine q0n rfl rfl ?_ | refine q0h rfl ?_) | (show goOn ..; first | refine q0s ?_ | refine q0v ?_ | refine q0w ?_) | (show q1g ..; refine q0i ?_) | (show q1j ..; (refine q0u (r := ?_) ?_ ?_; rotate_left 1; (focus first | exact h1 | exact h2))) | (show wGo ..; first | refine q1o ?_ | refine q1u ?_ | refine q1q ?_ | refine q1s ?_ | refine gw_u ?_ | refine q1p (fun _ => ?_) (fun _ => ?_) | refine q1t (fun _ => ?_) (fun _ => ?_) | refine q1r (fun _ => ?_) (fun _ => ?_) | refine q1v (fun _ => ?_) (fun _ => ?_)) | (show q0g ..; first | refine q0q ?_ | refine q0c ?_ | refine q0r ?_ | refine q0f ?_) | refine q0a ?_ | refine q0m ?_ | refine q0l ?_ | (show retQ ..; first | refine q0o ?_ | refine q0b ?_) | refine q0e ?_)
  all_goals rfl
theorem law18_does (w : Wd) (t : Ob) (addr v : Int) (xw : w.wf) (xt : t.wf) (xa : U addr) (xv : U v) :
    Pure Tryz.prog 6 [.agg (Wd.enc w), .agg (Ob.enc t), .int .u64 addr, .int .u64 v] (.bool true) := by
  have hk := law18_awake
  have lo : ∀ x ∈ w.objects, x.L := fun x hx => Ob.lens (xw.2.2.2.1 x hx)
  have lt := Ob.lens xt
  have b1 := law18_few w xw.2.2.2.2 lo
  cases h1 : fewR w with
  | false =>
    rw [h1] at b1
    refine q2i (by kernel_rfl) (by simp only [go_sem, *]) (by simp only [go_sem, *]) Tryz.func6 Tryz.results6 rfl (by simp [Tryz.ntmps6]) (by kernel_rfl) ?_
    repeat' (first | (show q0x ..; first | refine q0d ?_ | refine q0p rfl ?_ | refine q0z rfl rfl ?_) | (show q1d ..; first | refine q0n rfl rfl ?_ | refine q0h rfl ?_) | (show goOn ..; first | refine q0s ?_ | refine q0v ?_ | refine q0w ?_) | (show q1g ..; refine q0i ?_) | (show q1j ..; (refine q0u (r := ?_) ?_ ?_; rotate_left 1; (focus first | exact b1 | exact hk))) | (show wGo ..; first | refine q1o ?_ | refine q1u ?_ | refine q1q ?_ | refine q1s ?_ | refine gw_u ?_ | refine q1p (fun _ => ?_) (fun _ => ?_) | refine q1t (fun _ => ?_) (fun _ => ?_) | refine q1r (fun _ => ?_) (fun _ => ?_) | refine q1v (fun _ => ?_) (fun _ => ?_)) | (show q0g ..; first | refine q0q ?_ | refine q0c ?_ | refine q0r ?_ | refine q0f ?_ | refine q0k ?_) | (show q0y ..; first | refine cd_t ?_ | refine cd_f ?_ | refine cd_n (fun _ => ?_) (fun _ => ?_) | refine cd_b (fun _ => ?_) (fun _ => ?_)) | refine q0a ?_ | refine q0m ?_ | refine q0l ?_ | (show retQ ..; first | refine q0o ?_ | refine q0b ?_) | refine q0e ?_)
    all_goals rfl
  | true =>
  have b2 := q5w t lt
  cases h2 : thrR t with
  | false =>
    rw [h1] at b1
    rw [h2] at b2
    refine q2i (by kernel_rfl) (by simp only [go_sem, *]) (by simp only [go_sem, *]) Tryz.func6 Tryz.results6 rfl (by simp [Tryz.ntmps6]) (by kernel_rfl) ?_
    repeat' (first | (show q0x ..; first | refine q0d ?_ | refine q0p rfl ?_ | refine q0z rfl rfl ?_) | (show q1d ..; first | refine q0n rfl rfl ?_ | refine q0h rfl ?_) | (show goOn ..; first | refine q0s ?_ | refine q0v ?_ | refine q0w ?_) | (show q1g ..; refine q0i ?_) | (show q1j ..; (refine q0u (r := ?_) ?_ ?_; rotate_left 1; (focus first | exact b1 | exact b2 | exact hk))) | (show wGo ..; first | refine q1o ?_ | refine q1u ?_ | refine q1q ?_ | refine q1s ?_ | refine gw_u ?_ | refine q1p (fun _ => ?_) (fun _ => ?_) | refine q1t (fun _ => ?_) (fun _ => ?_) | refine q1r (fun _ => ?_) (fun _ => ?_) | refine q1v (fun _ => ?_) (fun _ => ?_)) | (show q0g ..; first | refine q0q ?_ | refine q0c ?_ | refine q0r ?_ | refine q0f ?_ | refine q0k ?_) | (show q0y ..; first | refine cd_t ?_ | refine cd_f ?_ | refine cd_n (fun _ => ?_) (fun _ => ?_) | refine cd_b (fun _ => ?_) (fun _ => ?_)) | refine q0a ?_ | refine q0m ?_ | refine q0l ?_ | (show retQ ..; first | refine q0o ?_ | refine q0b ?_) | refine q0e ?_)
    all_goals rfl
  | true =>
  rw [h1] at b1
  rw [h2] at b2
  obtain ⟨hf, hw⟩ := fewR_of h1
  have lw : w.L := ⟨xw.2.2.2.2, fun x hx => ⟨lo x hx, by have := (hf.ob x hx).1; omega⟩⟩
  have hwd := q5m hw
  obtain ⟨ht, htl⟩ := thr_fit h2
  clear h1 h2
  obtain ⟨k, hk64, rfl⟩ := U_nat xa
  have g := store_good ⟨lw, hf, hw⟩ t k v
  have c1 := memWalk w t k hk64 hf hwd ht htl
  have d1 := r18_walk w t k hk64 hf hwd htl
  have c2 := mem_load w t k hk64 hf hwd (q5x hf hw) ht htl
  have d2 := r18_load w t k hk64 hf hw htl
  have c3 := mem_store w t k v hk64 hf hw ht htl
  have d3 := r18_store w t k v hk64 hf hw htl
  have s1 := one_self (walk_L lw hf hw t k)
  have s2 := same_c g.L (rfl : (q3c w t k v).1 = _)
  have s3 := r14_fit _ g.L g.few
  rw [g.fit] at s3
  generalize q2v w t k = p1 at c1 d1 s1
  generalize q5z w t k = p2 at c2 d2
  generalize q3c w t k v = p3 at c3 d3 s2 s3
  refine q2i (by kernel_rfl) (by simp only [go_sem, *]) (by simp only [go_sem, *]) Tryz.func6 Tryz.results6 rfl (by simp [Tryz.ntmps6]) (by kernel_rfl) ?_
  repeat' (first | (show q0x ..; first | refine q0d ?_ | refine q0p rfl ?_ | refine q0z rfl rfl ?_) | (show q1d ..; first | refine q0n rfl rfl ?_ | refine q0h rfl ?_) | (show goOn ..; first | refine q0s ?_ | refine q0v ?_ | refine q0w ?_) | (show q1g ..; refine q0i ?_) | (show q1j ..; (refine q0u (r := ?_) ?_ ?_; rotate_left 1; (focus first | exact b1 | exact b2 | exact c1 | exact d1 | exact c2 | exact d2 | exact c3 | exact d3 | exact s1 | exact s2 | exact s3 | exact hk))) | (show wGo ..; first | refine q1o ?_ | refine q1u ?_ | refine q1q ?_ | refine q1s ?_ | refine gw_u ?_ | refine q1p (fun _ => ?_) (fun _ => ?_) | refine q1t (fun _ => ?_) (fun _ => ?_) | refine q1r (fun _ => ?_) (fun _ => ?_) | refine q1v (fun _ => ?_) (fun _ => ?_)) | (show q0g ..; first | refine q0q ?_ | refine q0c ?_ | refine q0r ?_ | refine q0f ?_ | refine q0k ?_) | (show q0y ..; first | refine cd_t ?_ | refine cd_f ?_ | refine cd_n (fun _ => ?_) (fun _ => ?_) | refine cd_b (fun _ => ?_) (fun _ => ?_)) | refine q0a ?_ | refine q0m ?_ | refine q0l ?_ | (show retQ ..; first | refine q0o ?_ | refine q0b ?_) | refine q0e ?_)
  all_goals rfl
theorem law18_within (w : Wd) (t : Ob) (addr v : Int) (xw : w.wf) (xt : t.wf) (xa : U addr) (xv : U v) :
    Pure Tryz.prog 8 [.agg (Wd.enc w), .agg (Ob.enc t), .int .u64 addr, .int .u64 v] (.bool true) := by
  have hk := law18_awake
  have lo : ∀ x ∈ w.objects, x.L := fun x hx => Ob.lens (xw.2.2.2.1 x hx)
  have lt := Ob.lens xt
  have b1 := law18_few w xw.2.2.2.2 lo
  cases h1 : fewR w with
  | false =>
    rw [h1] at b1
    refine q2i (by kernel_rfl) (by simp only [go_sem, *]) (by simp only [go_sem, *]) Tryz.func8 Tryz.results8 rfl (by simp [Tryz.ntmps8]) (by kernel_rfl) ?_
    repeat' (first | (show q0x ..; first | refine q0d ?_ | refine q0p rfl ?_ | refine q0z rfl rfl ?_) | (show q1d ..; first | refine q0n rfl rfl ?_ | refine q0h rfl ?_) | (show goOn ..; first | refine q0s ?_ | refine q0v ?_ | refine q0w ?_) | (show q1g ..; refine q0i ?_) | (show q1j ..; (refine q0u (r := ?_) ?_ ?_; rotate_left 1; (focus first | exact b1 | exact hk))) | (show wGo ..; first | refine q1o ?_ | refine q1u ?_ | refine q1q ?_ | refine q1s ?_ | refine gw_u ?_ | refine q1p (fun _ => ?_) (fun _ => ?_) | refine q1t (fun _ => ?_) (fun _ => ?_) | refine q1r (fun _ => ?_) (fun _ => ?_) | refine q1v (fun _ => ?_) (fun _ => ?_)) | (show q0g ..; first | refine q0q ?_ | refine q0c ?_ | refine q0r ?_ | refine q0f ?_ | refine q0k ?_) | (show q0y ..; first | refine cd_t ?_ | refine cd_f ?_ | refine cd_n (fun _ => ?_) (fun _ => ?_) | refine cd_b (fun _ => ?_) (fun _ => ?_)) | refine q0a ?_ | refine q0m ?_ | refine q0l ?_ | (show retQ ..; first | refine q0o ?_ | refine q0b ?_) | refine q0e ?_)
    all_goals rfl
  | true =>
  have b2 := q5w t lt
  cases h2 : thrR t with
  | false =>
    rw [h1] at b1
    rw [h2] at b2
    refine q2i (by kernel_rfl) (by simp only [go_sem, *]) (by simp only [go_sem, *]) Tryz.func8 Tryz.results8 rfl (by simp [Tryz.ntmps8]) (by kernel_rfl) ?_
    repeat' (first | (show q0x ..; first | refine q0d ?_ | refine q0p rfl ?_ | refine q0z rfl rfl ?_) | (show q1d ..; first | refine q0n rfl rfl ?_ | refine q0h rfl ?_) | (show goOn ..; first | refine q0s ?_ | refine q0v ?_ | refine q0w ?_) | (show q1g ..; refine q0i ?_) | (show q1j ..; (refine q0u (r := ?_) ?_ ?_; rotate_left 1; (focus first | exact b1 | exact b2 | exact hk))) | (show wGo ..; first | refine q1o ?_ | refine q1u ?_ | refine q1q ?_ | refine q1s ?_ | refine gw_u ?_ | refine q1p (fun _ => ?_) (fun _ => ?_) | refine q1t (fun _ => ?_) (fun _ => ?_) | refine q1r (fun _ => ?_) (fun _ => ?_) | refine q1v (fun _ => ?_) (fun _ => ?_)) | (show q0g ..; first | refine q0q ?_ | refine q0c ?_ | refine q0r ?_ | refine q0f ?_ | refine q0k ?_) | (show q0y ..; first | refine cd_t ?_ | refine cd_f ?_ | refine cd_n (fun _ => ?_) (fun _ => ?_) | refine cd_b (fun _ => ?_) (fun _ => ?_)) | refine q0a ?_ | refine q0m ?_ | refine q0l ?_ | (show retQ ..; first | refine q0o ?_ | refine q0b ?_) | refine q0e ?_)
    all_goals rfl
  | true =>
  rw [h1] at b1
  rw [h2] at b2
  obtain ⟨hf, hw⟩ := fewR_of h1
  have lw : w.L := ⟨xw.2.2.2.2, fun x hx => ⟨lo x hx, by have := (hf.ob x hx).1; omega⟩⟩
  have hwd := q5m hw
  obtain ⟨ht, htl⟩ := thr_fit h2
  clear h1 h2
  obtain ⟨k, hk64, rfl⟩ := U_nat xa
  have c1 := memWalk w t k hk64 hf hwd ht htl
  have c2 := mem_load w t k hk64 hf hwd (q5x hf hw) ht htl
  have c3 := mem_store w t k v hk64 hf hw ht htl
  have hok := q5x (t := t) (k := k) hf hw
  have hms : q3t w t k = (((q2v w t k).2 == 0) && ((q2v w t k).1.2.2 && leqR t.label (q2v w t k).1.1.label)) := rfl
  have hld : q5z w t k = if ((q2v w t k).2 == 0) = true then (((q2v w t k).1.1.data[(q2v w t k).1.2.1.toNat]?).getD 0, true) else (0, false) := rfl
  have h2s : (q3c w t k v).2 = q3t w t k := by unfold q3c; split <;> simp_all
  generalize q3c w t k v = S at c3 h2s
  obtain ⟨sw, sb⟩ := S
  simp only at h2s c3
  generalize q5z w t k = L at c2 hld
  obtain ⟨lv, lb⟩ := L
  simp only at c2
  generalize q3t w t k = mb at hms h2s
  generalize q2v w t k = R at c1 hok hms hld
  obtain ⟨⟨o, a, b⟩, e⟩ := R
  simp only at c1 hok hms hld
  subst h2s
  cases he : (e == 0) with
  | false =>
    rw [he] at hms hld
    simp only [Bool.false_and, Bool.false_eq_true, if_false] at hms hld
    obtain ⟨rfl, rfl⟩ := Prod.mk.inj hld
    subst hms
    clear hok hld
    refine q2i (by kernel_rfl) (by simp only [go_sem, *]) (by simp only [go_sem, *]) Tryz.func8 Tryz.results8 rfl (by simp [Tryz.ntmps8]) (by kernel_rfl) ?_
    repeat' (first | (show q0x ..; first | refine q0d ?_ | refine q0p rfl ?_ | refine q0z rfl rfl ?_) | (show q1d ..; first | refine q0n rfl rfl ?_ | refine q0h rfl ?_) | (show goOn ..; first | refine q0s ?_ | refine q0v ?_ | refine q0w ?_) | (show q1g ..; refine q0i ?_) | (show q1j ..; (refine q0u (r := ?_) ?_ ?_; rotate_left 1; (focus first | exact b1 | exact b2 | exact c1 | exact c2 | exact c3 | exact hk))) | (show wGo ..; first | refine q1o ?_ | refine q1u ?_ | refine q1q ?_ | refine q1s ?_ | refine gw_u ?_ | refine q1p (fun _ => ?_) (fun _ => ?_) | refine q1t (fun _ => ?_) (fun _ => ?_) | refine q1r (fun _ => ?_) (fun _ => ?_) | refine q1v (fun _ => ?_) (fun _ => ?_)) | (show q0g ..; first | refine q0q ?_ | refine q0c ?_ | refine q0r ?_ | refine q0f ?_ | refine q0k ?_) | (show q0y ..; first | refine cd_t ?_ | refine cd_f ?_ | refine cd_n (fun _ => ?_) (fun _ => ?_) | refine cd_b (fun _ => ?_) (fun _ => ?_)) | refine q0a ?_ | refine q0m ?_ | refine q0l ?_ | (show retQ ..; first | refine q0o ?_ | refine q0b ?_) | refine q0e ?_)
    all_goals rfl
  | true =>
    rw [he] at hms hld
    simp only [Bool.true_and, if_true] at hms hld
    obtain ⟨hmem, hkd, hse, h0, h9⟩ := hok he
    simp only at hmem hkd hse
    obtain ⟨_, rfl⟩ := Prod.mk.inj hld
    have hkn : (o.kind != 1) = false := by simp [bne, hkd]
    have h4 := r3_observe t.label o.label (by omega) (by have := (hf.ob o hmem).1; omega)
    have hobs : obsR t.label o.label = true := by
      have hk1 : o.kind = 1 := by simpa using hkd
      unfold seesR q5g at hse
      rw [if_neg (by rw [hk1]; decide)] at hse
      exact hse
    rw [hobs] at h4
    have h5 := r2_leq t.label o.label (by omega) (by have := (hf.ob o hmem).1; omega)
    generalize leqR t.label o.label = q at h5 hms
    clear hok hld hse hobs hmem
    cases b with
    | false =>
      simp only [Bool.false_and] at hms
      subst hms
      refine q2i (by kernel_rfl) (by simp only [go_sem, *]) (by simp only [go_sem, *]) Tryz.func8 Tryz.results8 rfl (by simp [Tryz.ntmps8]) (by kernel_rfl) ?_
      repeat' (first | (show q0x ..; first | refine q0d ?_ | refine q0p rfl ?_ | refine q0z rfl rfl ?_) | (show q1d ..; first | refine q0n rfl rfl ?_ | refine q0h rfl ?_) | (show goOn ..; first | refine q0s ?_ | refine q0v ?_ | refine q0w ?_) | (show q1g ..; refine q0i ?_) | (show q1j ..; (refine q0u (r := ?_) ?_ ?_; rotate_left 1; (focus first | exact b1 | exact b2 | exact c1 | exact c2 | exact c3 | exact h4 | exact h5 | exact hk))) | (show wGo ..; first | refine q1o ?_ | refine q1u ?_ | refine q1q ?_ | refine q1s ?_ | refine gw_u ?_ | refine q1p (fun _ => ?_) (fun _ => ?_) | refine q1t (fun _ => ?_) (fun _ => ?_) | refine q1r (fun _ => ?_) (fun _ => ?_) | refine q1v (fun _ => ?_) (fun _ => ?_)) | (show q0g ..; first | refine q0q ?_ | refine q0c ?_ | refine q0r ?_ | refine q0f ?_ | refine q0k ?_) | (show q0y ..; first | refine cd_t ?_ | refine cd_f ?_ | refine cd_n (fun _ => ?_) (fun _ => ?_) | refine cd_b (fun _ => ?_) (fun _ => ?_)) | refine q0a ?_ | refine q0m ?_ | refine q0l ?_ | (show retQ ..; first | refine q0o ?_ | refine q0b ?_) | refine q0e ?_)
      all_goals rfl
    | true =>
      simp only [Bool.true_and] at hms
      subst hms
      cases sb with
      | false =>
        refine q2i (by kernel_rfl) (by simp only [go_sem, *]) (by simp only [go_sem, *]) Tryz.func8 Tryz.results8 rfl (by simp [Tryz.ntmps8]) (by kernel_rfl) ?_
        repeat' (first | (show q0x ..; first | refine q0d ?_ | refine q0p rfl ?_ | refine q0z rfl rfl ?_) | (show q1d ..; first | refine q0n rfl rfl ?_ | refine q0h rfl ?_) | (show goOn ..; first | refine q0s ?_ | refine q0v ?_ | refine q0w ?_) | (show q1g ..; refine q0i ?_) | (show q1j ..; (refine q0u (r := ?_) ?_ ?_; rotate_left 1; (focus first | exact b1 | exact b2 | exact c1 | exact c2 | exact c3 | exact h4 | exact h5 | exact hk))) | (show wGo ..; first | refine q1o ?_ | refine q1u ?_ | refine q1q ?_ | refine q1s ?_ | refine gw_u ?_ | refine q1p (fun _ => ?_) (fun _ => ?_) | refine q1t (fun _ => ?_) (fun _ => ?_) | refine q1r (fun _ => ?_) (fun _ => ?_) | refine q1v (fun _ => ?_) (fun _ => ?_)) | (show q0g ..; first | refine q0q ?_ | refine q0c ?_ | refine q0r ?_ | refine q0f ?_ | refine q0k ?_) | (show q0y ..; first | refine cd_t ?_ | refine cd_f ?_ | refine cd_n (fun _ => ?_) (fun _ => ?_) | refine cd_b (fun _ => ?_) (fun _ => ?_)) | refine q0a ?_ | refine q0m ?_ | refine q0l ?_ | (show retQ ..; first | refine q0o ?_ | refine q0b ?_) | refine q0e ?_)
        all_goals rfl
      | true =>
        refine q2i (by kernel_rfl) (by simp only [go_sem, *]) (by simp only [go_sem, *]) Tryz.func8 Tryz.results8 rfl (by simp [Tryz.ntmps8]) (by kernel_rfl) ?_
        repeat' (first | (show q0x ..; first | refine q0d ?_ | refine q0p rfl ?_ | refine q0z rfl rfl ?_) | (show q1d ..; first | refine q0n rfl rfl ?_ | refine q0h rfl ?_) | (show goOn ..; first | refine q0s ?_ | refine q0v ?_ | refine q0w ?_) | (show q1g ..; refine q0i ?_) | (show q1j ..; (refine q0u (r := ?_) ?_ ?_; rotate_left 1; (focus first | exact b1 | exact b2 | exact c1 | exact c2 | exact c3 | exact h4 | exact h5 | exact hk))) | (show wGo ..; first | refine q1o ?_ | refine q1u ?_ | refine q1q ?_ | refine q1s ?_ | refine gw_u ?_ | refine q1p (fun _ => ?_) (fun _ => ?_) | refine q1t (fun _ => ?_) (fun _ => ?_) | refine q1r (fun _ => ?_) (fun _ => ?_) | refine q1v (fun _ => ?_) (fun _ => ?_)) | (show q0g ..; first | refine q0q ?_ | refine q0c ?_ | refine q0r ?_ | refine q0f ?_ | refine q0k ?_) | (show q0y ..; first | refine cd_t ?_ | refine cd_f ?_ | refine cd_n (fun _ => ?_) (fun _ => ?_) | refine cd_b (fun _ => ?_) (fun _ => ?_)) | refine q0a ?_ | refine q0m ?_ | refine q0l ?_ | (show retQ ..; first | refine q0o ?_ | refine q0b ?_) | refine q0e ?_)
        all_goals rfl
end Go.Proofs.YteibeoipnjhicaaGreat
