import Derived.Test.YteibeoipnjhicaaGreatEr5
namespace Go.Proofs.YteibeoipnjhicaaGreat
open Go Go.RowKit
set_option linter.unusedVariables false
set_option linter.unusedSimpArgs false
set_option maxHeartbeats 16000000
set_option maxRecDepth 100000
noncomputable def fewS (w : Wd) : Bool := !decide ((w.objects.length : Int) > 24) && (allB w.objects.length (fewAt w.objects) && fitW w)
theorem fewS_f {w : Wd} (h1 : decide ((w.objects.length : Int) > 24) = false) (h2 : allB w.objects.length (fewAt w.objects) = true) : FewW w := by
  have h1 := of_decide_eq_false h1
  refine ⟨by omega, fun x hx => ?_⟩
  obtain ⟨k, hk⟩ := List.getElem?_of_mem hx
  have := allB_iff.1 h2 k (q5a hk)
  unfold fewAt at this
  rw [hk] at this
  simp only [Bool.not_eq_true', Bool.or_eq_false_iff, decide_eq_false_iff_not] at this
  omega
theorem fewS_of {w : Wd} (h : fewS w = true) : FewW w ∧ fitW w = true := by
  unfold fewS at h
  simp only [Bool.and_eq_true, Bool.not_eq_true'] at h
  exact ⟨fewS_f h.1 h.2.1, h.2.2⟩
def isThr (w : Wd) (id : Int) : Bool := (q3b w id).2 && ((q3b w id).1.kind == 4)
attribute [local irreducible] q0z dr q0i Ex.then Ex.inBlock retQ q1r q3e q3c Pure CSat evOp q2n rdOf upd hset strip sp0 cut envL q3f q4c Keep BdL evBs q3m q4a
theorem law19_few (w : Wd) (hl : w.objects.length ≤ 9223372036854775807) (ho : ∀ x ∈ w.objects, x.L) : Pure Tryz.prog 51 [.agg (Wd.enc w)] (.bool (fewS w)) := by
  cases h1 : decide ((w.objects.length : Int) > 24) with
  | true =>
    refine q2z (by kernel_rfl) (by simp only [go_sem, *]) (by simp only [go_sem, *]) Tryz.func51 Tryz.results51 rfl (by simp [Tryz.ntmps51]) (by kernel_rfl) ?_
    repeat' (first | (show q0z ..; first | refine q0d ?_ | refine q0p rfl ?_ | refine q1b rfl rfl ?_) | (show q1f ..; first | refine q0n rfl rfl ?_ | refine q0g rfl ?_) | (show goOn ..; first | refine q0s ?_ | refine q0u ?_ | refine q0v ?_) | (show q1i ..; refine q0j ?_) | (show wGo ..; first | refine q1w ?_ | refine q2c ?_ | refine q1y ?_ | refine q2a ?_ | refine gw_u ?_ | refine q1x (fun _ => ?_) (fun _ => ?_) | refine q2b (fun _ => ?_) (fun _ => ?_) | refine q1z (fun _ => ?_) (fun _ => ?_) | refine q2d (fun _ => ?_) (fun _ => ?_)) | (show q0i ..; first | refine q0q ?_ | refine q0c ?_ | refine q0r ?_ | refine q0f ?_ | refine q0l ?_ | refine q0x ?_ | refine q0t ?_) | (show q1d ..; first | refine cd_t ?_ | refine cd_f ?_ | refine cd_n (fun _ => ?_) (fun _ => ?_) | refine cd_b (fun _ => ?_) (fun _ => ?_)) | refine q0a ?_ | refine q0m ?_ | refine q0k ?_ | refine q0w ?_ | refine q0h ?_ | refine q0y ?_ | refine bl_pass rfl ?_ | refine q1g ?_ | refine q1e ?_ | (show retQ ..; first | refine q0o ?_ | refine q0b ?_) | refine q0e ?_)
    all_goals (refine q2u ?_; unfold fewS; rw [h1]; rfl)
  | false =>
  have h1' := of_decide_eq_false h1
  have fin : ∀ b, (allB w.objects.length (fewAt w.objects) && fitW w) = b → b = fewS w := fun b hb => by unfold fewS; rw [h1, hb]; rfl
  refine q2z (by kernel_rfl) (by simp only [go_sem, *]) (by simp only [go_sem, *]) Tryz.func51 Tryz.results51 rfl (by simp [Tryz.ntmps51]) (by kernel_rfl) ?_
  repeat' (first | (show q0z ..; first | refine q0d ?_ | refine q0p rfl ?_ | refine q1b rfl rfl ?_) | (show q1f ..; first | refine q0n rfl rfl ?_ | refine q0g rfl ?_) | (show goOn ..; first | refine q0s ?_ | refine q0u ?_ | refine q0v ?_) | (show q1i ..; refine q0j ?_) | (show wGo ..; first | refine q1w ?_ | refine q2c ?_ | refine q1y ?_ | refine q2a ?_ | refine gw_u ?_ | refine q1x (fun _ => ?_) (fun _ => ?_) | refine q2b (fun _ => ?_) (fun _ => ?_) | refine q1z (fun _ => ?_) (fun _ => ?_) | refine q2d (fun _ => ?_) (fun _ => ?_)) | (show q0i ..; first | refine q0q ?_ | refine q0c ?_ | refine q0r ?_ | refine q0f ?_ | refine q0l ?_ | refine q0x ?_ | refine q0t ?_) | (show q1d ..; first | refine cd_t ?_ | refine cd_f ?_ | refine cd_n (fun _ => ?_) (fun _ => ?_) | refine cd_b (fun _ => ?_) (fun _ => ?_)) | refine q0a ?_ | refine q0m ?_ | refine q0k ?_ | refine q0w ?_ | refine q0h ?_ | refine q0y ?_ | refine bl_pass rfl ?_ | refine q1g ?_ | refine q1e ?_ | (show retQ ..; first | refine q0o ?_ | refine q0b ?_) | refine q0e ?_)
  refine q3n (S := Nat) (fun n => w.objects.length - n) (fun n => n ≤ w.objects.length ∧ ∀ j, j < n → fewAt w.objects j = true) (fun n => [(1, .ptr 0 0), (10, .sl (w.objects.map Ob.enc)), (11, .int .i64 w.objects.length), (12, .int .i64 n)]) (fun _ => [(0, .box (Wd.enc w))]) (fun _ => 1) 0 ⟨Nat.zero_le _, fun j hj => absurd hj (Nat.not_lt_zero j)⟩ (by (refine q2o ?_ ?_ <;> repeat' (first | exact q1v | exact q2f | refine q1k (by (try simp only [go_sem, *]); try rfl) (by simp only [go_sem, *]) ?_ | refine q2g (by (try simp only [go_sem, *]); try rfl) (by omega) (by simp only [go_sem, *]) ?_ | refine q2e (by (try simp only [go_sem, *]); try rfl) (by omega) (by simp only [go_sem, *]) ?_))) ?_
  rintro n ⟨hn, hs⟩
  rcases Nat.lt_or_ge n w.objects.length with hlt | hge
  · obtain ⟨x, hx⟩ := q3l hlt
    have h0 := q3r hlt
    have h4 := q3h n (by omega)
    have e : fewAt w.objects n = !(decide ((x.label.length : Int) > 20) || (decide ((x.links.length : Int) > 70) || (decide ((x.data.length : Int) > 300) || decide ((x.maps.length : Int) > 20)))) := by unfold fewAt; rw [hx]
    repeat' (first | (show q0z ..; first | refine q0d ?_ | refine q0p rfl ?_ | refine q1b rfl rfl ?_) | (show q1f ..; first | refine q0n rfl rfl ?_ | refine q0g rfl ?_) | (show goOn ..; first | refine q0s ?_ | refine q0u ?_ | refine q0v ?_) | (show q1i ..; refine q0j ?_) | (show wGo ..; first | refine q1w ?_ | refine q2c ?_ | refine q1y ?_ | refine q2a ?_ | refine gw_u ?_ | refine q1x (fun _ => ?_) (fun _ => ?_) | refine q2b (fun _ => ?_) (fun _ => ?_) | refine q1z (fun _ => ?_) (fun _ => ?_) | refine q2d (fun _ => ?_) (fun _ => ?_)) | (show q0i ..; first | refine q0q ?_ | refine q0c ?_ | refine q0r ?_ | refine q0f ?_ | refine q0l ?_ | refine q0x ?_ | refine q0t ?_) | (show q1d ..; first | refine cd_t ?_ | refine cd_f ?_ | refine cd_n (fun _ => ?_) (fun _ => ?_) | refine cd_b (fun _ => ?_) (fun _ => ?_)) | refine q0a ?_ | refine q0m ?_ | refine q0k ?_ | refine q0w ?_ | refine q0h ?_ | refine q0y ?_ | refine bl_pass rfl ?_ | refine q1g ?_ | refine q1e ?_ | (show retQ ..; first | refine q0o ?_ | refine q0b ?_) | refine q0e ?_)
    all_goals first
      | (refine q2u (fin _ ?_); rw [q3s hlt (by rw [e]; simp only [*, Bool.not_true, Bool.not_false, Bool.and_true, Bool.true_and, Bool.and_false, Bool.false_and, Bool.or_true, Bool.true_or, Bool.or_false, Bool.false_or, Bool.and_self, Bool.or_self, decide_true, decide_false, Bool.not_not, if_true, if_false, Bool.false_eq_true, eq_self])]; rfl)
      | (refine again (n + 1) ⟨hlt, q5m hs ?_⟩ (show w.objects.length - (n + 1) < w.objects.length - n by omega) (by (refine q2o ?_ ?_ <;> repeat' (first | exact q1v | exact q2f | refine q1k (by (try simp only [go_sem, *]); try rfl) (by simp only [go_sem, *]) ?_ | refine q2g (by (try simp only [go_sem, *]); try rfl) (by omega) (by simp only [go_sem, *]) ?_ | refine q2e (by (try simp only [go_sem, *]); try rfl) (by omega) (by simp only [go_sem, *]) ?_))); rw [e]; simp only [*, Bool.not_true, Bool.not_false, Bool.and_true, Bool.true_and, Bool.and_false, Bool.false_and, Bool.or_true, Bool.true_or, Bool.or_false, Bool.false_or, Bool.and_self, Bool.or_self, decide_true, decide_false, Bool.not_not, if_true, if_false, Bool.false_eq_true, eq_self]; done)
  · have h0 := q3d hge
    have hall : allB w.objects.length (fewAt w.objects) = true := q3u fun j hj => hs j (by omega)
    have hfew := fewS_f h1 hall
    have hft := r14_fit w ⟨hl, fun x hx => ⟨ho x hx, by have := (hfew.ob x hx).1; omega⟩⟩ hfew
    clear ho
    have hfin := fin (fitW w) (by rw [hall]; rfl)
    clear fin
    repeat' (first | (show q0z ..; first | refine q0d ?_ | refine q0p rfl ?_ | refine q1b rfl rfl ?_) | (show q1f ..; first | refine q0n rfl rfl ?_ | refine q0g rfl ?_) | (show goOn ..; first | refine q0s ?_ | refine q0u ?_ | refine q0v ?_) | (show q1i ..; refine q0j ?_) | (show q1s ..; (refine q1a (r := ?_) ?_ ?_; rotate_left 1; (focus exact hft))) | (show wGo ..; first | refine q1w ?_ | refine q2c ?_ | refine q1y ?_ | refine q2a ?_ | refine gw_u ?_ | refine q1x (fun _ => ?_) (fun _ => ?_) | refine q2b (fun _ => ?_) (fun _ => ?_) | refine q1z (fun _ => ?_) (fun _ => ?_) | refine q2d (fun _ => ?_) (fun _ => ?_)) | (show q0i ..; first | refine q0q ?_ | refine q0c ?_ | refine q0r ?_ | refine q0f ?_ | refine q0l ?_ | refine q0x ?_ | refine q0t ?_) | (show q1d ..; first | refine cd_t ?_ | refine cd_f ?_ | refine cd_n (fun _ => ?_) (fun _ => ?_) | refine cd_b (fun _ => ?_) (fun _ => ?_)) | refine q0a ?_ | refine q0m ?_ | refine q0k ?_ | refine q0w ?_ | refine q0h ?_ | refine q0y ?_ | refine bl_pass rfl ?_ | refine q1g ?_ | refine q1e ?_ | (show retQ ..; first | refine q0o ?_ | refine q0b ?_) | refine q0e ?_)
    all_goals first | rfl | (refine q2u ?_; first | exact hfin | exact hfin.symm) | (rw [hfin]) | (rw [← hfin])
theorem law24_few (w : Wd) (hl : w.objects.length ≤ 9223372036854775807) (ho : ∀ x ∈ w.objects, x.L) : Pure Tryz.prog 19 [.agg (Wd.enc w)] (.bool (fewS w)) := by
  cases h1 : decide ((w.objects.length : Int) > 24) with
  | true =>
    refine q2z (by kernel_rfl) (by simp only [go_sem, *]) (by simp only [go_sem, *]) Tryz.func19 Tryz.results19 rfl (by simp [Tryz.ntmps19]) (by kernel_rfl) ?_
    repeat' (first | (show q0z ..; first | refine q0d ?_ | refine q0p rfl ?_ | refine q1b rfl rfl ?_) | (show q1f ..; first | refine q0n rfl rfl ?_ | refine q0g rfl ?_) | (show goOn ..; first | refine q0s ?_ | refine q0u ?_ | refine q0v ?_) | (show q1i ..; refine q0j ?_) | (show wGo ..; first | refine q1w ?_ | refine q2c ?_ | refine q1y ?_ | refine q2a ?_ | refine gw_u ?_ | refine q1x (fun _ => ?_) (fun _ => ?_) | refine q2b (fun _ => ?_) (fun _ => ?_) | refine q1z (fun _ => ?_) (fun _ => ?_) | refine q2d (fun _ => ?_) (fun _ => ?_)) | (show q0i ..; first | refine q0q ?_ | refine q0c ?_ | refine q0r ?_ | refine q0f ?_ | refine q0l ?_ | refine q0x ?_ | refine q0t ?_) | (show q1d ..; first | refine cd_t ?_ | refine cd_f ?_ | refine cd_n (fun _ => ?_) (fun _ => ?_) | refine cd_b (fun _ => ?_) (fun _ => ?_)) | refine q0a ?_ | refine q0m ?_ | refine q0k ?_ | refine q0w ?_ | refine q0h ?_ | refine q0y ?_ | refine bl_pass rfl ?_ | refine q1g ?_ | refine q1e ?_ | (show retQ ..; first | refine q0o ?_ | refine q0b ?_) | refine q0e ?_)
    all_goals (refine q2u ?_; unfold fewS; rw [h1]; rfl)
  | false =>
  have h1' := of_decide_eq_false h1
  have fin : ∀ b, (allB w.objects.length (fewAt w.objects) && fitW w) = b → b = fewS w := fun b hb => by unfold fewS; rw [h1, hb]; rfl
  refine q2z (by kernel_rfl) (by simp only [go_sem, *]) (by simp only [go_sem, *]) Tryz.func19 Tryz.results19 rfl (by simp [Tryz.ntmps19]) (by kernel_rfl) ?_
  repeat' (first | (show q0z ..; first | refine q0d ?_ | refine q0p rfl ?_ | refine q1b rfl rfl ?_) | (show q1f ..; first | refine q0n rfl rfl ?_ | refine q0g rfl ?_) | (show goOn ..; first | refine q0s ?_ | refine q0u ?_ | refine q0v ?_) | (show q1i ..; refine q0j ?_) | (show wGo ..; first | refine q1w ?_ | refine q2c ?_ | refine q1y ?_ | refine q2a ?_ | refine gw_u ?_ | refine q1x (fun _ => ?_) (fun _ => ?_) | refine q2b (fun _ => ?_) (fun _ => ?_) | refine q1z (fun _ => ?_) (fun _ => ?_) | refine q2d (fun _ => ?_) (fun _ => ?_)) | (show q0i ..; first | refine q0q ?_ | refine q0c ?_ | refine q0r ?_ | refine q0f ?_ | refine q0l ?_ | refine q0x ?_ | refine q0t ?_) | (show q1d ..; first | refine cd_t ?_ | refine cd_f ?_ | refine cd_n (fun _ => ?_) (fun _ => ?_) | refine cd_b (fun _ => ?_) (fun _ => ?_)) | refine q0a ?_ | refine q0m ?_ | refine q0k ?_ | refine q0w ?_ | refine q0h ?_ | refine q0y ?_ | refine bl_pass rfl ?_ | refine q1g ?_ | refine q1e ?_ | (show retQ ..; first | refine q0o ?_ | refine q0b ?_) | refine q0e ?_)
  refine q3n (S := Nat) (fun n => w.objects.length - n) (fun n => n ≤ w.objects.length ∧ ∀ j, j < n → fewAt w.objects j = true) (fun n => [(1, .ptr 0 0), (10, .sl (w.objects.map Ob.enc)), (11, .int .i64 w.objects.length), (12, .int .i64 n)]) (fun _ => [(0, .box (Wd.enc w))]) (fun _ => 1) 0 ⟨Nat.zero_le _, fun j hj => absurd hj (Nat.not_lt_zero j)⟩ (by (refine q2o ?_ ?_ <;> repeat' (first | exact q1v | exact q2f | refine q1k (by (try simp only [go_sem, *]); try rfl) (by simp only [go_sem, *]) ?_ | refine q2g (by (try simp only [go_sem, *]); try rfl) (by omega) (by simp only [go_sem, *]) ?_ | refine q2e (by (try simp only [go_sem, *]); try rfl) (by omega) (by simp only [go_sem, *]) ?_))) ?_
  rintro n ⟨hn, hs⟩
  rcases Nat.lt_or_ge n w.objects.length with hlt | hge
  · obtain ⟨x, hx⟩ := q3l hlt
    have h0 := q3r hlt
    have h4 := q3h n (by omega)
    have e : fewAt w.objects n = !(decide ((x.label.length : Int) > 20) || (decide ((x.links.length : Int) > 70) || (decide ((x.data.length : Int) > 300) || decide ((x.maps.length : Int) > 20)))) := by unfold fewAt; rw [hx]
    repeat' (first | (show q0z ..; first | refine q0d ?_ | refine q0p rfl ?_ | refine q1b rfl rfl ?_) | (show q1f ..; first | refine q0n rfl rfl ?_ | refine q0g rfl ?_) | (show goOn ..; first | refine q0s ?_ | refine q0u ?_ | refine q0v ?_) | (show q1i ..; refine q0j ?_) | (show wGo ..; first | refine q1w ?_ | refine q2c ?_ | refine q1y ?_ | refine q2a ?_ | refine gw_u ?_ | refine q1x (fun _ => ?_) (fun _ => ?_) | refine q2b (fun _ => ?_) (fun _ => ?_) | refine q1z (fun _ => ?_) (fun _ => ?_) | refine q2d (fun _ => ?_) (fun _ => ?_)) | (show q0i ..; first | refine q0q ?_ | refine q0c ?_ | refine q0r ?_ | refine q0f ?_ | refine q0l ?_ | refine q0x ?_ | refine q0t ?_) | (show q1d ..; first | refine cd_t ?_ | refine cd_f ?_ | refine cd_n (fun _ => ?_) (fun _ => ?_) | refine cd_b (fun _ => ?_) (fun _ => ?_)) | refine q0a ?_ | refine q0m ?_ | refine q0k ?_ | refine q0w ?_ | refine q0h ?_ | refine q0y ?_ | refine bl_pass rfl ?_ | refine q1g ?_ | refine q1e ?_ | (show retQ ..; first | refine q0o ?_ | refine q0b ?_) | refine q0e ?_)
    all_goals first
      | (refine q2u (fin _ ?_); rw [q3s hlt (by rw [e]; simp only [*, Bool.not_true, Bool.not_false, Bool.and_true, Bool.true_and, Bool.and_false, Bool.false_and, Bool.or_true, Bool.true_or, Bool.or_false, Bool.false_or, Bool.and_self, Bool.or_self, decide_true, decide_false, Bool.not_not, if_true, if_false, Bool.false_eq_true, eq_self])]; rfl)
      | (refine again (n + 1) ⟨hlt, q5m hs ?_⟩ (show w.objects.length - (n + 1) < w.objects.length - n by omega) (by (refine q2o ?_ ?_ <;> repeat' (first | exact q1v | exact q2f | refine q1k (by (try simp only [go_sem, *]); try rfl) (by simp only [go_sem, *]) ?_ | refine q2g (by (try simp only [go_sem, *]); try rfl) (by omega) (by simp only [go_sem, *]) ?_ | refine q2e (by (try simp only [go_sem, *]); try rfl) (by omega) (by simp only [go_sem, *]) ?_))); rw [e]; simp only [*, Bool.not_true, Bool.not_false, Bool.and_true, Bool.true_and, Bool.and_false, Bool.false_and, Bool.or_true, Bool.true_or, Bool.or_false, Bool.false_or, Bool.and_self, Bool.or_self, decide_true, decide_false, Bool.not_not, if_true, if_false, Bool.false_eq_true, eq_self]; done)
  · have h0 := q3d hge
    have hall : allB w.objects.length (fewAt w.objects) = true := q3u fun j hj => hs j (by omega)
    have hfew := fewS_f h1 hall
    have hft := r14_fit w ⟨hl, fun x hx => ⟨ho x hx, by have := (hfew.ob x hx).1; omega⟩⟩ hfew
    clear ho
    have hfin := fin (fitW w) (by rw [hall]; rfl)
    clear fin
    repeat' (first | (show q0z ..; first | refine q0d ?_ | refine q0p rfl ?_ | refine q1b rfl rfl ?_) | (show q1f ..; first | refine q0n rfl rfl ?_ | refine q0g rfl ?_) | (show goOn ..; first | refine q0s ?_ | refine q0u ?_ | refine q0v ?_) | (show q1i ..; refine q0j ?_) | (show q1s ..; (refine q1a (r := ?_) ?_ ?_; rotate_left 1; (focus exact hft))) | (show wGo ..; first | refine q1w ?_ | refine q2c ?_ | refine q1y ?_ | refine q2a ?_ | refine gw_u ?_ | refine q1x (fun _ => ?_) (fun _ => ?_) | refine q2b (fun _ => ?_) (fun _ => ?_) | refine q1z (fun _ => ?_) (fun _ => ?_) | refine q2d (fun _ => ?_) (fun _ => ?_)) | (show q0i ..; first | refine q0q ?_ | refine q0c ?_ | refine q0r ?_ | refine q0f ?_ | refine q0l ?_ | refine q0x ?_ | refine q0t ?_) | (show q1d ..; first | refine cd_t ?_ | refine cd_f ?_ | refine cd_n (fun _ => ?_) (fun _ => ?_) | refine cd_b (fun _ => ?_) (fun _ => ?_)) | refine q0a ?_ | refine q0m ?_ | refine q0k ?_ | refine q0w ?_ | refine q0h ?_ | refine q0y ?_ | refine bl_pass rfl ?_ | refine q1g ?_ | refine q1e ?_ | (show retQ ..; first | refine q0o ?_ | refine q0b ?_) | refine q0e ?_)
    all_goals first | rfl | (refine q2u ?_; first | exact hfin | exact hfin.symm) | (rw [hfin]) | (rw [← hfin])
theorem law24_thread (w : Wd) (id : Int) (hl : w.objects.length ≤ 1000000) : Pure Tryz.prog 20 [.agg (Wd.enc w), .int .u64 id] (.bool (isThr w id)) := by
  have h1 := q5w w id hl
  unfold isThr
  generalize q3b w id = F at h1 ⊢
  obtain ⟨o, b⟩ := F
  simp only at h1 ⊢
  cases b with
  | false =>
    refine q2z (by kernel_rfl) (by simp only [go_sem, *]) (by simp only [go_sem, *]) Tryz.func20 Tryz.results20 rfl (by simp [Tryz.ntmps20]) (by kernel_rfl) ?_
    repeat' (first | (show q0z ..; first | refine q0d ?_ | refine q0p rfl ?_ | refine q1b rfl rfl ?_) | (show q1f ..; first | refine q0n rfl rfl ?_ | refine q0g rfl ?_) | (show goOn ..; first | refine q0s ?_ | refine q0u ?_ | refine q0v ?_) | (show q1i ..; refine q0j ?_) | (show q1s ..; (refine q1a (r := ?_) ?_ ?_; rotate_left 1; (focus exact h1))) | (show wGo ..; first | refine q1w ?_ | refine q2c ?_ | refine q1y ?_ | refine q2a ?_ | refine gw_u ?_ | refine q1x (fun _ => ?_) (fun _ => ?_) | refine q2b (fun _ => ?_) (fun _ => ?_) | refine q1z (fun _ => ?_) (fun _ => ?_) | refine q2d (fun _ => ?_) (fun _ => ?_)) | (show q0i ..; first | refine q0q ?_ | refine q0c ?_ | refine q0r ?_ | refine q0f ?_) | refine q0a ?_ | refine q0m ?_ | refine q0k ?_ | (show retQ ..; first | refine q0o ?_ | refine q0b ?_) | refine q0e ?_)
    all_goals rfl
  | true =>
    refine q2z (by kernel_rfl) (by simp only [go_sem, *]) (by simp only [go_sem, *]) Tryz.func20 Tryz.results20 rfl (by simp [Tryz.ntmps20]) (by kernel_rfl) ?_
    repeat' (first | (show q0z ..; first | refine q0d ?_ | refine q0p rfl ?_ | refine q1b rfl rfl ?_) | (show q1f ..; first | refine q0n rfl rfl ?_ | refine q0g rfl ?_) | (show goOn ..; first | refine q0s ?_ | refine q0u ?_ | refine q0v ?_) | (show q1i ..; refine q0j ?_) | (show q1s ..; (refine q1a (r := ?_) ?_ ?_; rotate_left 1; (focus exact h1))) | (show wGo ..; first | refine q1w ?_ | refine q2c ?_ | refine q1y ?_ | refine q2a ?_ | refine gw_u ?_ | refine q1x (fun _ => ?_) (fun _ => ?_) | refine q2b (fun _ => ?_) (fun _ => ?_) | refine q1z (fun _ => ?_) (fun _ => ?_) | refine q2d (fun _ => ?_) (fun _ => ?_)) | (show q0i ..; first | refine q0q ?_ | refine q0c ?_ | refine q0r ?_ | refine q0f ?_) | refine q0a ?_ | refine q0m ?_ | refine q0k ?_ | (show retQ ..; first | refine q0o ?_ | refine q0b ?_) | refine q0e ?_)
    all_goals rfl
end Go.Proofs.YteibeoipnjhicaaGreat
