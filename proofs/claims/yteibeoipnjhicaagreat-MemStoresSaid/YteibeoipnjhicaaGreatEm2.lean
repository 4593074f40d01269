import Derived.Test.YteibeoipnjhicaaGreatEm1
import Derived.Test.YteibeoipnjhicaaGreatTre
namespace Go.Proofs.YteibeoipnjhicaaGreat
open Go Go.RowKit
set_option linter.unusedVariables false
set_option linter.unusedSimpArgs false
set_option maxHeartbeats 16000000
set_option maxRecDepth 100000
attribute [local irreducible] q0x dr q0g Ex.then Ex.inBlock retQ q1x q3g q3e Pure CSat evOp q2o rdOf upd hset strip sp0 cut envL q2u q4j Keep BdL evBs q3m q4g
theorem mem_walk (w : Wd) (t : Ob) (k : Nat) (hk : k ≤ 18446744073709551615) (hf : FewW w) (hw : q5c w = true) (ht : q4l t.label = true) (htl : t.label.length ≤ 20) :
    Pure Tryz.prog 80 [.agg (Wd.enc w), .agg (Ob.enc t), .int .u64 (k : Int)] (.tup [.agg (plEnc (q2v w t k).1.1 (q2v w t k).1.2.1 (q2v w t k).1.2.2), .int .i64 (q2v w t k).2]) := by
  have h1 := reach_see w t t.thread.space 3 hf hw ht htl
  have hm := see_maps (w := w) (t := t) (r := t.thread.space) hf hw
  unfold q2v
  generalize seeR w t t.thread.space 3 = S at h1 hm ⊢
  obtain ⟨s, e⟩ := S
  simp only at h1 hm ⊢
  cases he : (e == 0) with
  | false =>
    have he2 : (e != 0) = true := by simp [bne, he]
    clear hm
    simp only [Bool.false_eq_true, if_false]
    refine q2i (by kernel_rfl) (by simp only [go_sem, *]) (by simp only [go_sem, *]) Tryz.func80 Tryz.results80 rfl (by simp [Tryz.ntmps80]) (by kernel_rfl) ?_
    repeat' (first | (show q0x ..; first | refine q0d ?_ | refine q0p rfl ?_) | (show q1d ..; first | refine q0n rfl rfl ?_ | refine q0h rfl ?_) | (show goOn ..; first | refine q0s ?_ | refine q0v ?_ | refine q0w ?_) | (show q1g ..; refine q0i ?_) | (show q1j ..; (refine q0u (r := ?_) ?_ ?_; rotate_left 1; (focus exact h1))) | (show q0g ..; first | refine q0q ?_ | refine q0c ?_ | refine q0r ?_ | refine q0f ?_ | refine q0k ?_) | (show q0y ..; first | refine cd_t ?_ | refine cd_f ?_ | refine cd_n (fun _ => ?_) (fun _ => ?_) | refine cd_b (fun _ => ?_) (fun _ => ?_)) | refine q0a ?_ | refine q0m ?_ | refine q0l ?_ | (show retQ ..; first | refine q0o ?_ | refine q0b ?_) | refine q0e ?_)
    all_goals rfl
  | true =>
    have he2 : (e != 0) = false := by simp [bne, he]
    have hm := hm he
    simp only [if_true]
    have h2 := mem_mapped s k hk hm
    unfold placeOf
    generalize mapR s.maps k = M at h2 ⊢
    obtain ⟨m, at_, is⟩ := M
    simp only at h2 ⊢
    have h3 := reach_see w t ⟨m.cont, m.seg⟩ 1 hf hw ht htl
    have hd := seeR_data hf t ⟨m.cont, m.seg⟩ 1
    generalize seeR w t ⟨m.cont, m.seg⟩ 1 = O at h3 hd ⊢
    obtain ⟨o, f⟩ := O
    simp only at h3 hd ⊢
    have e4 : IntKind.u64.wrap (o.data.length : Int) = (o.data.length : Int) := by rw [IntKind.wrap_u64]; omega
    clear hm hd
    cases is with
    | false =>
      simp only [Bool.false_eq_true, if_false]
      refine q2i (by kernel_rfl) (by simp only [go_sem, *]) (by simp only [go_sem, *]) Tryz.func80 Tryz.results80 rfl (by simp [Tryz.ntmps80]) (by kernel_rfl) ?_
      repeat' (first | (show q0x ..; first | refine q0d ?_ | refine q0p rfl ?_) | (show q1d ..; first | refine q0n rfl rfl ?_ | refine q0h rfl ?_) | (show goOn ..; first | refine q0s ?_ | refine q0v ?_ | refine q0w ?_) | (show q1g ..; refine q0i ?_) | (show q1j ..; (refine q0u (r := ?_) ?_ ?_; rotate_left 1; (focus first | exact h1 | exact h2))) | (show q0g ..; first | refine q0q ?_ | refine q0c ?_ | refine q0r ?_ | refine q0f ?_ | refine q0k ?_) | (show q0y ..; first | refine cd_t ?_ | refine cd_f ?_ | refine cd_n (fun _ => ?_) (fun _ => ?_) | refine cd_b (fun _ => ?_) (fun _ => ?_)) | refine q0a ?_ | refine q0m ?_ | refine q0l ?_ | (show retQ ..; first | refine q0o ?_ | refine q0b ?_) | refine q0e ?_)
      all_goals rfl
    | true =>
    cases hfe : (f == 0) with
    | false =>
      have hf2 : (f != 0) = true := by simp [bne, hfe]
      simp only [Bool.false_eq_true, if_false, if_true]
      refine q2i (by kernel_rfl) (by simp only [go_sem, *]) (by simp only [go_sem, *]) Tryz.func80 Tryz.results80 rfl (by simp [Tryz.ntmps80]) (by kernel_rfl) ?_
      repeat' (first | (show q0x ..; first | refine q0d ?_ | refine q0p rfl ?_) | (show q1d ..; first | refine q0n rfl rfl ?_ | refine q0h rfl ?_) | (show goOn ..; first | refine q0s ?_ | refine q0v ?_ | refine q0w ?_) | (show q1g ..; refine q0i ?_) | (show q1j ..; (refine q0u (r := ?_) ?_ ?_; rotate_left 1; (focus first | exact h1 | exact h2 | exact h3))) | (show q0g ..; first | refine q0q ?_ | refine q0c ?_ | refine q0r ?_ | refine q0f ?_ | refine q0k ?_) | (show q0y ..; first | refine cd_t ?_ | refine cd_f ?_ | refine cd_n (fun _ => ?_) (fun _ => ?_) | refine cd_b (fun _ => ?_) (fun _ => ?_)) | refine q0a ?_ | refine q0m ?_ | refine q0l ?_ | (show retQ ..; first | refine q0o ?_ | refine q0b ?_) | refine q0e ?_)
      all_goals rfl
    | true =>
    have hf2 : (f != 0) = false := by simp [bne, hfe]
    cases hat : decide (at_ ≥ (o.data.length : Int)) with
    | true =>
      simp only [if_true]
      refine q2i (by kernel_rfl) (by simp only [go_sem, *]) (by simp only [go_sem, *]) Tryz.func80 Tryz.results80 rfl (by simp [Tryz.ntmps80]) (by kernel_rfl) ?_
      repeat' (first | (show q0x ..; first | refine q0d ?_ | refine q0p rfl ?_) | (show q1d ..; first | refine q0n rfl rfl ?_ | refine q0h rfl ?_) | (show goOn ..; first | refine q0s ?_ | refine q0v ?_ | refine q0w ?_) | (show q1g ..; refine q0i ?_) | (show q1j ..; (refine q0u (r := ?_) ?_ ?_; rotate_left 1; (focus first | exact h1 | exact h2 | exact h3))) | (show q0g ..; first | refine q0q ?_ | refine q0c ?_ | refine q0r ?_ | refine q0f ?_ | refine q0k ?_) | (show q0y ..; first | refine cd_t ?_ | refine cd_f ?_ | refine cd_n (fun _ => ?_) (fun _ => ?_) | refine cd_b (fun _ => ?_) (fun _ => ?_)) | refine q0a ?_ | refine q0m ?_ | refine q0l ?_ | (show retQ ..; first | refine q0o ?_ | refine q0b ?_) | refine q0e ?_)
      all_goals rfl
    | false =>
      simp only [Bool.false_eq_true, if_false, if_true]
      refine q2i (by kernel_rfl) (by simp only [go_sem, *]) (by simp only [go_sem, *]) Tryz.func80 Tryz.results80 rfl (by simp [Tryz.ntmps80]) (by kernel_rfl) ?_
      repeat' (first | (show q0x ..; first | refine q0d ?_ | refine q0p rfl ?_) | (show q1d ..; first | refine q0n rfl rfl ?_ | refine q0h rfl ?_) | (show goOn ..; first | refine q0s ?_ | refine q0v ?_ | refine q0w ?_) | (show q1g ..; refine q0i ?_) | (show q1j ..; (refine q0u (r := ?_) ?_ ?_; rotate_left 1; (focus first | exact h1 | exact h2 | exact h3))) | (show q0g ..; first | refine q0q ?_ | refine q0c ?_ | refine q0r ?_ | refine q0f ?_ | refine q0k ?_) | (show q0y ..; first | refine cd_t ?_ | refine cd_f ?_ | refine cd_n (fun _ => ?_) (fun _ => ?_) | refine cd_b (fun _ => ?_) (fun _ => ?_)) | refine q0a ?_ | refine q0m ?_ | refine q0l ?_ | (show retQ ..; first | refine q0o ?_ | refine q0b ?_) | refine q0e ?_)
      all_goals rfl
theorem memWalk (w : Wd) (t : Ob) (k : Nat) (hk : k ≤ 18446744073709551615) (hf : FewW w) (hw : q5c w = true) (ht : q4l t.label = true) (htl : t.label.length ≤ 20) :
    Pure Tryz.prog 37 [.agg (Wd.enc w), .agg (Ob.enc t), .int .u64 (k : Int)] (.tup [.agg (Ob.enc (q2v w t k).1.1), .int .u64 (q2v w t k).1.2.1, .bool (q2v w t k).1.2.2, .int .i64 (q2v w t k).2]) := by
  have h1 := mem_walk w t k hk hf hw ht htl
  generalize q2v w t k = R at h1 ⊢
  obtain ⟨⟨o, a, b⟩, e⟩ := R
  simp only at h1 ⊢
  refine q2i (by kernel_rfl) (by simp only [go_sem, *]) (by simp only [go_sem, *]) Tryz.func37 Tryz.results37 rfl (by simp [Tryz.ntmps37]) (by kernel_rfl) ?_
  repeat' (first | (show q0x ..; first | refine q0d ?_ | refine q0p rfl ?_) | (show q1d ..; first | refine q0n rfl rfl ?_ | refine q0h rfl ?_) | (show goOn ..; first | refine q0s ?_ | refine q0v ?_ | refine q0w ?_) | (show q1g ..; refine q0i ?_) | (show q1j ..; (refine q0u (r := ?_) ?_ ?_; rotate_left 1; (focus exact h1))) | (show dr ..; first | refine q1k ?_ | refine dr_n rfl ?_) | (show drGo ..; first | refine q2h rfl ?_ | refine q1n rfl ?_) | (show drOn ..; first | refine q1l ?_ | refine q1z ?_ | refine q1y ?_) | (show q1w ..; refine q1e ?_) | (show q2l ..; (refine q1m (r := ?_) ?_ ?_; rotate_left 1; (focus exact h1))) | (refine And.intro (by kernel_rfl : q1x _ = true) ?_) | (show q0g ..; first | refine q0q ?_ | refine q0c ?_ | refine q1h (by kernel_rfl) ?_ | refine q0r ?_ | refine q0f ?_) | refine q0a ?_ | refine q0m ?_ | refine q0l ?_ | (show retQ ..; first | refine q0o ?_ | refine q0b ?_) | refine q0e ?_)
  all_goals rfl
theorem r18_walk (w : Wd) (t : Ob) (k : Nat) (hk : k ≤ 18446744073709551615) (hf : FewW w) (hw : q5c w = true) (htl : t.label.length ≤ 20) :
    Pure Tryz.prog 38 [.agg (Wd.enc w), .agg (Ob.enc t), .int .u64 (k : Int)] (.tup [.agg (Ob.enc (q2v w t k).1.1), .int .u64 (q2v w t k).1.2.1, .bool (q2v w t k).1.2.2, .int .i64 (q2v w t k).2]) := by
  have h1 := r17_see w t t.thread.space 3 hf htl
  have hm := see_maps (w := w) (t := t) (r := t.thread.space) hf hw
  unfold q2v
  generalize seeR w t t.thread.space 3 = S at h1 hm ⊢
  obtain ⟨s, e⟩ := S
  simp only at h1 hm ⊢
  cases he : (e == 0) with
  | false =>
    have he2 : (e != 0) = true := by simp [bne, he]
    clear hm
    simp only [Bool.false_eq_true, if_false]
    refine q2i (by kernel_rfl) (by simp only [go_sem, *]) (by simp only [go_sem, *]) Tryz.func38 Tryz.results38 rfl (by simp [Tryz.ntmps38]) (by kernel_rfl) ?_
    repeat' (first | (show q0x ..; first | refine q0d ?_ | refine q0p rfl ?_ | refine q0z rfl rfl ?_) | (show q1d ..; first | refine q0n rfl rfl ?_ | refine q0h rfl ?_) | (show goOn ..; first | refine q0s ?_ | refine q0v ?_ | refine q0w ?_) | (show q1g ..; refine q0i ?_) | (show q1j ..; (refine q0u (r := ?_) ?_ ?_; rotate_left 1; (focus exact h1))) | (show wGo ..; first | refine q1o ?_ | refine q1u ?_ | refine q1q ?_ | refine q1s ?_ | refine gw_u ?_ | refine q1p (fun _ => ?_) (fun _ => ?_) | refine q1t (fun _ => ?_) (fun _ => ?_) | refine q1r (fun _ => ?_) (fun _ => ?_) | refine q1v (fun _ => ?_) (fun _ => ?_)) | (show dr ..; first | refine q1k ?_ | refine dr_n rfl ?_ | refine q3b rfl rfl ?_) | (show drGo ..; first | refine q2h rfl ?_ | refine q1n rfl ?_) | (show drOn ..; first | refine q1l ?_ | refine q1z ?_ | refine q1y ?_) | (show q1w ..; refine q1e ?_) | (show q2l ..; (refine q1m (r := ?_) ?_ ?_; rotate_left 1; (focus exact h1))) | (refine And.intro (by kernel_rfl : q1x _ = true) ?_) | (show q0g ..; first | refine q0q ?_ | refine q0c ?_ | refine q1h (by kernel_rfl) ?_ | refine q0r ?_ | refine q0f ?_ | refine q0k ?_) | (show q0y ..; first | refine cd_t ?_ | refine cd_f ?_ | refine cd_n (fun _ => ?_) (fun _ => ?_) | refine cd_b (fun _ => ?_) (fun _ => ?_)) | refine q0a ?_ | refine q0m ?_ | refine q0l ?_ | (show retQ ..; first | refine q0o ?_ | refine q0b ?_) | refine q0e ?_)
    all_goals rfl
  | true =>
    have he2 : (e != 0) = false := by simp [bne, he]
    have hm := hm he
    simp only [if_true]
    have h2 := r12_split k hk
    have hb := split_bd k
    have h4 := r12_find s.maps (splitN k).1 hm (I_page hb.1 hb.2.1)
    have hn := found_bd hm (splitN k).1
    unfold placeOf mapR
    generalize splitN k = S2 at h2 hb h4 hn ⊢
    obtain ⟨p, wd, ok⟩ := S2
    simp only at h2 hb h4 hn ⊢
    generalize findM s.maps p = M at h4 hn ⊢
    obtain ⟨m, n, is⟩ := M
    simp only at h4 hn ⊢
    have e1 : IntKind.i64.wrap (n * 16) = n * 16 := by rw [IntKind.wrap_i64]; omega
    have e2 : IntKind.i64.wrap (n * 16 + wd) = n * 16 + wd := by rw [IntKind.wrap_i64]; omega
    have e3 : IntKind.u64.wrap (n * 16 + wd) = n * 16 + wd := by rw [IntKind.wrap_u64]; omega
    clear hm hb hn
    cases ok with
    | false =>
      simp only [Bool.false_eq_true, if_false]
      refine q2i (by kernel_rfl) (by simp only [go_sem, *]) (by simp only [go_sem, *]) Tryz.func38 Tryz.results38 rfl (by simp [Tryz.ntmps38]) (by kernel_rfl) ?_
      repeat' (first | (show q0x ..; first | refine q0d ?_ | refine q0p rfl ?_ | refine q0z rfl rfl ?_) | (show q1d ..; first | refine q0n rfl rfl ?_ | refine q0h rfl ?_) | (show goOn ..; first | refine q0s ?_ | refine q0v ?_ | refine q0w ?_) | (show q1g ..; refine q0i ?_) | (show q1j ..; (refine q0u (r := ?_) ?_ ?_; rotate_left 1; (focus first | exact h1 | exact h2 | exact h4))) | (show wGo ..; first | refine q1o ?_ | refine q1u ?_ | refine q1q ?_ | refine q1s ?_ | refine gw_u ?_ | refine q1p (fun _ => ?_) (fun _ => ?_) | refine q1t (fun _ => ?_) (fun _ => ?_) | refine q1r (fun _ => ?_) (fun _ => ?_) | refine q1v (fun _ => ?_) (fun _ => ?_)) | (show dr ..; first | refine q1k ?_ | refine dr_n rfl ?_ | refine q3b rfl rfl ?_) | (show drGo ..; first | refine q2h rfl ?_ | refine q1n rfl ?_) | (show drOn ..; first | refine q1l ?_ | refine q1z ?_ | refine q1y ?_) | (show q1w ..; refine q1e ?_) | (show q2l ..; (refine q1m (r := ?_) ?_ ?_; rotate_left 1; (focus first | exact h1 | exact h2 | exact h4))) | (refine And.intro (by kernel_rfl : q1x _ = true) ?_) | (show q0g ..; first | refine q0q ?_ | refine q0c ?_ | refine q1h (by kernel_rfl) ?_ | refine q0r ?_ | refine q0f ?_ | refine q0k ?_) | (show q0y ..; first | refine cd_t ?_ | refine cd_f ?_ | refine cd_n (fun _ => ?_) (fun _ => ?_) | refine cd_b (fun _ => ?_) (fun _ => ?_)) | refine q0a ?_ | refine q0m ?_ | refine q0l ?_ | (show retQ ..; first | refine q0o ?_ | refine q0b ?_) | refine q0e ?_)
      all_goals rfl
    | true =>
    cases is with
    | false =>
      simp only [Bool.false_eq_true, if_false, if_true]
      refine q2i (by kernel_rfl) (by simp only [go_sem, *]) (by simp only [go_sem, *]) Tryz.func38 Tryz.results38 rfl (by simp [Tryz.ntmps38]) (by kernel_rfl) ?_
      repeat' (first | (show q0x ..; first | refine q0d ?_ | refine q0p rfl ?_ | refine q0z rfl rfl ?_) | (show q1d ..; first | refine q0n rfl rfl ?_ | refine q0h rfl ?_) | (show goOn ..; first | refine q0s ?_ | refine q0v ?_ | refine q0w ?_) | (show q1g ..; refine q0i ?_) | (show q1j ..; (refine q0u (r := ?_) ?_ ?_; rotate_left 1; (focus first | exact h1 | exact h2 | exact h4))) | (show wGo ..; first | refine q1o ?_ | refine q1u ?_ | refine q1q ?_ | refine q1s ?_ | refine gw_u ?_ | refine q1p (fun _ => ?_) (fun _ => ?_) | refine q1t (fun _ => ?_) (fun _ => ?_) | refine q1r (fun _ => ?_) (fun _ => ?_) | refine q1v (fun _ => ?_) (fun _ => ?_)) | (show dr ..; first | refine q1k ?_ | refine dr_n rfl ?_ | refine q3b rfl rfl ?_) | (show drGo ..; first | refine q2h rfl ?_ | refine q1n rfl ?_) | (show drOn ..; first | refine q1l ?_ | refine q1z ?_ | refine q1y ?_) | (show q1w ..; refine q1e ?_) | (show q2l ..; (refine q1m (r := ?_) ?_ ?_; rotate_left 1; (focus first | exact h1 | exact h2 | exact h4))) | (refine And.intro (by kernel_rfl : q1x _ = true) ?_) | (show q0g ..; first | refine q0q ?_ | refine q0c ?_ | refine q1h (by kernel_rfl) ?_ | refine q0r ?_ | refine q0f ?_ | refine q0k ?_) | (show q0y ..; first | refine cd_t ?_ | refine cd_f ?_ | refine cd_n (fun _ => ?_) (fun _ => ?_) | refine cd_b (fun _ => ?_) (fun _ => ?_)) | refine q0a ?_ | refine q0m ?_ | refine q0l ?_ | (show retQ ..; first | refine q0o ?_ | refine q0b ?_) | refine q0e ?_)
      all_goals rfl
    | true =>
    simp only [if_true]
    have h3 := r17_see w t ⟨m.cont, m.seg⟩ 1 hf htl
    generalize seeR w t ⟨m.cont, m.seg⟩ 1 = O at h3 ⊢
    obtain ⟨o, f⟩ := O
    simp only at h3 ⊢
    cases hfe : (f == 0) with
    | false =>
      have hf2 : (f != 0) = true := by simp [bne, hfe]
      simp only [Bool.false_eq_true, if_false, if_true, hfe]
      refine q2i (by kernel_rfl) (by simp only [go_sem, *]) (by simp only [go_sem, *]) Tryz.func38 Tryz.results38 rfl (by simp [Tryz.ntmps38]) (by kernel_rfl) ?_
      repeat' (first | (show q0x ..; first | refine q0d ?_ | refine q0p rfl ?_ | refine q0z rfl rfl ?_) | (show q1d ..; first | refine q0n rfl rfl ?_ | refine q0h rfl ?_) | (show goOn ..; first | refine q0s ?_ | refine q0v ?_ | refine q0w ?_) | (show q1g ..; refine q0i ?_) | (show q1j ..; (refine q0u (r := ?_) ?_ ?_; rotate_left 1; (focus first | exact h1 | exact h2 | exact h4 | exact h3))) | (show wGo ..; first | refine q1o ?_ | refine q1u ?_ | refine q1q ?_ | refine q1s ?_ | refine gw_u ?_ | refine q1p (fun _ => ?_) (fun _ => ?_) | refine q1t (fun _ => ?_) (fun _ => ?_) | refine q1r (fun _ => ?_) (fun _ => ?_) | refine q1v (fun _ => ?_) (fun _ => ?_)) | (show dr ..; first | refine q1k ?_ | refine dr_n rfl ?_ | refine q3b rfl rfl ?_) | (show drGo ..; first | refine q2h rfl ?_ | refine q1n rfl ?_) | (show drOn ..; first | refine q1l ?_ | refine q1z ?_ | refine q1y ?_) | (show q1w ..; refine q1e ?_) | (show q2l ..; (refine q1m (r := ?_) ?_ ?_; rotate_left 1; (focus first | exact h1 | exact h2 | exact h4 | exact h3))) | (refine And.intro (by kernel_rfl : q1x _ = true) ?_) | (show q0g ..; first | refine q0q ?_ | refine q0c ?_ | refine q1h (by kernel_rfl) ?_ | refine q0r ?_ | refine q0f ?_ | refine q0k ?_) | (show q0y ..; first | refine cd_t ?_ | refine cd_f ?_ | refine cd_n (fun _ => ?_) (fun _ => ?_) | refine cd_b (fun _ => ?_) (fun _ => ?_)) | refine q0a ?_ | refine q0m ?_ | refine q0l ?_ | (show retQ ..; first | refine q0o ?_ | refine q0b ?_) | refine q0e ?_)
      all_goals rfl
    | true =>
    have hf2 : (f != 0) = false := by simp [bne, hfe]
    cases hat : decide (n * 16 + wd ≥ (o.data.length : Int)) with
    | true =>
      simp only [Bool.false_eq_true, if_false, if_true, hfe, hat]
      refine q2i (by kernel_rfl) (by simp only [go_sem, *]) (by simp only [go_sem, *]) Tryz.func38 Tryz.results38 rfl (by simp [Tryz.ntmps38]) (by kernel_rfl) ?_
      repeat' (first | (show q0x ..; first | refine q0d ?_ | refine q0p rfl ?_ | refine q0z rfl rfl ?_) | (show q1d ..; first | refine q0n rfl rfl ?_ | refine q0h rfl ?_) | (show goOn ..; first | refine q0s ?_ | refine q0v ?_ | refine q0w ?_) | (show q1g ..; refine q0i ?_) | (show q1j ..; (refine q0u (r := ?_) ?_ ?_; rotate_left 1; (focus first | exact h1 | exact h2 | exact h4 | exact h3))) | (show wGo ..; first | refine q1o ?_ | refine q1u ?_ | refine q1q ?_ | refine q1s ?_ | refine gw_u ?_ | refine q1p (fun _ => ?_) (fun _ => ?_) | refine q1t (fun _ => ?_) (fun _ => ?_) | refine q1r (fun _ => ?_) (fun _ => ?_) | refine q1v (fun _ => ?_) (fun _ => ?_)) | (show dr ..; first | refine q1k ?_ | refine dr_n rfl ?_ | refine q3b rfl rfl ?_) | (show drGo ..; first | refine q2h rfl ?_ | refine q1n rfl ?_) | (show drOn ..; first | refine q1l ?_ | refine q1z ?_ | refine q1y ?_) | (show q1w ..; refine q1e ?_) | (show q2l ..; (refine q1m (r := ?_) ?_ ?_; rotate_left 1; (focus first | exact h1 | exact h2 | exact h4 | exact h3))) | (refine And.intro (by kernel_rfl : q1x _ = true) ?_) | (show q0g ..; first | refine q0q ?_ | refine q0c ?_ | refine q1h (by kernel_rfl) ?_ | refine q0r ?_ | refine q0f ?_ | refine q0k ?_) | (show q0y ..; first | refine cd_t ?_ | refine cd_f ?_ | refine cd_n (fun _ => ?_) (fun _ => ?_) | refine cd_b (fun _ => ?_) (fun _ => ?_)) | refine q0a ?_ | refine q0m ?_ | refine q0l ?_ | (show retQ ..; first | refine q0o ?_ | refine q0b ?_) | refine q0e ?_)
      all_goals rfl
    | false =>
      simp only [Bool.false_eq_true, if_false, if_true, hfe, hat]
      refine q2i (by kernel_rfl) (by simp only [go_sem, *]) (by simp only [go_sem, *]) Tryz.func38 Tryz.results38 rfl (by simp [Tryz.ntmps38]) (by kernel_rfl) ?_
      repeat' (first | (show q0x ..; first | refine q0d ?_ | refine q0p rfl ?_ | refine q0z rfl rfl ?_) | (show q1d ..; first | refine q0n rfl rfl ?_ | refine q0h rfl ?_) | (show goOn ..; first | refine q0s ?_ | refine q0v ?_ | refine q0w ?_) | (show q1g ..; refine q0i ?_) | (show q1j ..; (refine q0u (r := ?_) ?_ ?_; rotate_left 1; (focus first | exact h1 | exact h2 | exact h4 | exact h3))) | (show wGo ..; first | refine q1o ?_ | refine q1u ?_ | refine q1q ?_ | refine q1s ?_ | refine gw_u ?_ | refine q1p (fun _ => ?_) (fun _ => ?_) | refine q1t (fun _ => ?_) (fun _ => ?_) | refine q1r (fun _ => ?_) (fun _ => ?_) | refine q1v (fun _ => ?_) (fun _ => ?_)) | (show dr ..; first | refine q1k ?_ | refine dr_n rfl ?_ | refine q3b rfl rfl ?_) | (show drGo ..; first | refine q2h rfl ?_ | refine q1n rfl ?_) | (show drOn ..; first | refine q1l ?_ | refine q1z ?_ | refine q1y ?_) | (show q1w ..; refine q1e ?_) | (show q2l ..; (refine q1m (r := ?_) ?_ ?_; rotate_left 1; (focus first | exact h1 | exact h2 | exact h4 | exact h3))) | (refine And.intro (by kernel_rfl : q1x _ = true) ?_) | (show q0g ..; first | refine q0q ?_ | refine q0c ?_ | refine q1h (by kernel_rfl) ?_ | refine q0r ?_ | refine q0f ?_ | refine q0k ?_) | (show q0y ..; first | refine cd_t ?_ | refine cd_f ?_ | refine cd_n (fun _ => ?_) (fun _ => ?_) | refine cd_b (fun _ => ?_) (fun _ => ?_)) | refine q0a ?_ | refine q0m ?_ | refine q0l ?_ | (show retQ ..; first | refine q0o ?_ | refine q0b ?_) | refine q0e ?_)
      all_goals rfl
structure WalkOk (w : Wd) (t : Ob) (P : Ob × Int × Bool) : Prop where
  mem : P.1 ∈ w.objects
  kind : (P.1.kind == 1) = true
  sees : seesR t P.1 = true
  at0 : 0 ≤ P.2.1
  len : P.2.1 < (P.1.data.length : Int)
theorem look_in {w : Wd} {t : Ob} {r : Rf} (hw : fitW w = true) (h : ((q5v w t r).2 == 0) = true) : (q5v w t r).1 ∈ w.objects := by
  unfold q5v at h ⊢
  split at h
  · rename_i h1
    rw [if_pos h1]
    split at h
    · rename_i h2
      rw [if_pos h2]
      obtain ⟨e1, e2, _⟩ := dir_found h1
      rw [e1] at h2
      obtain ⟨x, hx, hxi⟩ := List.any_eq_true.1 h2
      have : x = r.id := by simpa using hxi
      subst this
      exact (find_id (links_found hw (find_id e2).2 hx)).2
    · simp at h
  · rename_i h1; simp only at h; rw [h] at h1; exact absurd rfl h1
theorem see_in {w : Wd} {t : Ob} {r : Rf} {k : Int} (hw : fitW w = true) (h : ((seeR w t r k).2 == 0) = true) : (seeR w t r k).1 ∈ w.objects ∧ seesR t (seeR w t r k).1 = true ∧ (seeR w t r k).1 = (q5v w t r).1 := by
  unfold seeR at h ⊢
  split at h
  · rename_i h1
    rw [if_pos h1]
    split at h
    · rename_i h2
      rw [if_pos h2]
      split at h
      · rename_i h3; rw [if_pos h3]; exact ⟨look_in hw h1, h3, rfl⟩
      · cases h
    · cases h
  · rename_i h1; exact absurd h h1
theorem q5x {w : Wd} {t : Ob} {k : Nat} (hf : FewW w) (hw : fitW w = true) (h : ((q2v w t k).2 == 0) = true) : WalkOk w t (q2v w t k).1 := by
  have hwd := q5m hw
  unfold q2v at h ⊢
  split at h
  · rename_i h1
    rw [if_pos h1]
    have hm := see_maps hf hwd h1
    generalize (seeR w t t.thread.space 3).1.maps = l at h hm ⊢
    unfold placeOf at h ⊢
    split at h
    · rename_i h2
      rw [if_pos h2]
      split at h
      · rename_i h3
        rw [if_pos h3]
        split at h
        · cases h
        · rename_i h4
          rw [if_neg h4]
          obtain ⟨a, b, _⟩ := see_in hw h3
          refine ⟨a, see_kind rfl h3, b, ?_, ?_⟩
          · unfold mapR at h2 ⊢
            have hb := split_bd k
            have hn := found_bd hm (splitN k).1
            split
            · simp only; omega
            · simp only; omega
          · simp only
            have := of_decide_eq_false (Bool.eq_false_iff.2 h4)
            omega
      · rename_i h3; simp only at h; rw [h] at h3; exact absurd rfl h3
    · cases h
  · rename_i h1; simp only at h; rw [h] at h1; exact absurd rfl h1
noncomputable def q5z (w : Wd) (t : Ob) (k : Nat) : Int × Bool := if ((q2v w t k).2 == 0) = true then (((q2v w t k).1.1.data[(q2v w t k).1.2.1.toNat]?).getD 0, true) else (0, false)
def q3t (w : Wd) (t : Ob) (k : Nat) : Bool := ((q2v w t k).2 == 0) && ((q2v w t k).1.2.2 && leqR t.label (q2v w t k).1.1.label)
def setO (o : Ob) (at_ v : Int) : Ob := { o with data := o.data.set at_.toNat v }
def q3c (w : Wd) (t : Ob) (k : Nat) (v : Int) : Wd × Bool := if q3t w t k = true then (w.ins (setO (q2v w t k).1.1 (q2v w t k).1.2.1 v), true) else (w, false)
theorem put_ok {o : Ob} {a v : Int} (hk : (o.kind == 1) = true) (ha : a < (o.data.length : Int)) : putE o a v = (setO o a v, 0) := by
  unfold putE hasE
  have h2 : decide (a ≥ (o.data.length : Int)) = false := decide_eq_false (by omega)
  rw [if_pos hk, h2]; rfl
theorem mem_load (w : Wd) (t : Ob) (k : Nat) (hk : k ≤ 18446744073709551615) (hf : FewW w) (hwd : q5c w = true) (ho : ((q2v w t k).2 == 0) = true → WalkOk w t (q2v w t k).1) (ht : q4l t.label = true) (htl : t.label.length ≤ 20) :
    Pure Tryz.prog 39 [.agg (Wd.enc w), .agg (Ob.enc t), .int .u64 (k : Int)] (.tup [.int .u64 (q5z w t k).1, .bool (q5z w t k).2]) := by
  have h1 := mem_walk w t k hk hf hwd ht htl
  unfold q5z
  generalize q2v w t k = R at h1 ho ⊢
  obtain ⟨⟨o, a, b⟩, e⟩ := R
  simp only at h1 ho ⊢
  cases he : (e == 0) with
  | false =>
    have he2 : (e != 0) = true := by simp [bne, he]
    simp only [Bool.false_eq_true, if_false]
    clear ho
    refine q2i (by kernel_rfl) (by simp only [go_sem, *]) (by simp only [go_sem, *]) Tryz.func39 Tryz.results39 rfl (by simp [Tryz.ntmps39]) (by kernel_rfl) ?_
    repeat' (first | (show q0x ..; first | refine q0d ?_ | refine q0p rfl ?_) | (show q1d ..; first | refine q0n rfl rfl ?_ | refine q0h rfl ?_) | (show goOn ..; first | refine q0s ?_ | refine q0v ?_ | refine q0w ?_) | (show q1g ..; refine q0i ?_) | (show q1j ..; (refine q0u (r := ?_) ?_ ?_; rotate_left 1; (focus exact h1))) | (show q0g ..; first | refine q0q ?_ | refine q0c ?_ | refine q0r ?_ | refine q0f ?_ | refine q0k ?_) | (show q0y ..; first | refine cd_t ?_ | refine cd_f ?_ | refine cd_n (fun _ => ?_) (fun _ => ?_) | refine cd_b (fun _ => ?_) (fun _ => ?_)) | refine q0a ?_ | refine q0m ?_ | refine q0l ?_ | (show retQ ..; first | refine q0o ?_ | refine q0b ?_) | refine q0e ?_)
    all_goals rfl
  | true =>
    have he2 : (e != 0) = false := by simp [bne, he]
    obtain ⟨_, _, _, h0, h9⟩ := ho he
    simp only at h0 h9
    obtain ⟨n, rfl⟩ : ∃ n : Nat, a = (n : Int) := ⟨a.toNat, by omega⟩
    obtain ⟨x, hx⟩ := q3d (by omega : n < o.data.length)
    simp only [if_true, Int.toNat_natCast, hx, Option.getD_some]
    refine q2i (by kernel_rfl) (by simp only [go_sem, *]) (by simp only [go_sem, *]) Tryz.func39 Tryz.results39 rfl (by simp [Tryz.ntmps39]) (by kernel_rfl) ?_
    repeat' (first | (show q0x ..; first | refine q0d ?_ | refine q0p rfl ?_) | (show q1d ..; first | refine q0n rfl rfl ?_ | refine q0h rfl ?_) | (show goOn ..; first | refine q0s ?_ | refine q0v ?_ | refine q0w ?_) | (show q1g ..; refine q0i ?_) | (show q1j ..; (refine q0u (r := ?_) ?_ ?_; rotate_left 1; (focus exact h1))) | (show q0g ..; first | refine q0q ?_ | refine q0c ?_ | refine q0r ?_ | refine q0f ?_ | refine q0k ?_) | (show q0y ..; first | refine cd_t ?_ | refine cd_f ?_ | refine cd_n (fun _ => ?_) (fun _ => ?_) | refine cd_b (fun _ => ?_) (fun _ => ?_)) | refine q0a ?_ | refine q0m ?_ | refine q0l ?_ | (show retQ ..; first | refine q0o ?_ | refine q0b ?_) | refine q0e ?_)
    all_goals rfl
theorem r18_load (w : Wd) (t : Ob) (k : Nat) (hk : k ≤ 18446744073709551615) (hf : FewW w) (hw : fitW w = true) (htl : t.label.length ≤ 20) :
    Pure Tryz.prog 40 [.agg (Wd.enc w), .agg (Ob.enc t), .int .u64 (k : Int)] (.tup [.int .u64 (q5z w t k).1, .bool (q5z w t k).2]) := by
  have h1 := r18_walk w t k hk hf (q5m hw) htl
  have ho := q5x (t := t) (k := k) hf hw
  unfold q5z
  generalize q2v w t k = R at h1 ho ⊢
  obtain ⟨⟨o, a, b⟩, e⟩ := R
  simp only at h1 ho ⊢
  cases he : (e == 0) with
  | false =>
    have he2 : (e != 0) = true := by simp [bne, he]
    simp only [Bool.false_eq_true, if_false]
    clear ho
    refine q2i (by kernel_rfl) (by simp only [go_sem, *]) (by simp only [go_sem, *]) Tryz.func40 Tryz.results40 rfl (by simp [Tryz.ntmps40]) (by kernel_rfl) ?_
    repeat' (first | (show q0x ..; first | refine q0d ?_ | refine q0p rfl ?_) | (show q1d ..; first | refine q0n rfl rfl ?_ | refine q0h rfl ?_) | (show goOn ..; first | refine q0s ?_ | refine q0v ?_ | refine q0w ?_) | (show q1g ..; refine q0i ?_) | (show q1j ..; (refine q0u (r := ?_) ?_ ?_; rotate_left 1; (focus exact h1))) | (show q0g ..; first | refine q0q ?_ | refine q0c ?_ | refine q0r ?_ | refine q0f ?_ | refine q0k ?_) | (show q0y ..; first | refine cd_t ?_ | refine cd_f ?_ | refine cd_n (fun _ => ?_) (fun _ => ?_) | refine cd_b (fun _ => ?_) (fun _ => ?_)) | refine q0a ?_ | refine q0m ?_ | refine q0l ?_ | (show retQ ..; first | refine q0o ?_ | refine q0b ?_) | refine q0e ?_)
    all_goals rfl
  | true =>
    have he2 : (e != 0) = false := by simp [bne, he]
    obtain ⟨_, _, _, h0, h9⟩ := ho he
    simp only at h0 h9
    obtain ⟨n, rfl⟩ : ∃ n : Nat, a = (n : Int) := ⟨a.toNat, by omega⟩
    obtain ⟨x, hx⟩ := q3d (by omega : n < o.data.length)
    simp only [if_true, Int.toNat_natCast, hx, Option.getD_some]
    refine q2i (by kernel_rfl) (by simp only [go_sem, *]) (by simp only [go_sem, *]) Tryz.func40 Tryz.results40 rfl (by simp [Tryz.ntmps40]) (by kernel_rfl) ?_
    repeat' (first | (show q0x ..; first | refine q0d ?_ | refine q0p rfl ?_) | (show q1d ..; first | refine q0n rfl rfl ?_ | refine q0h rfl ?_) | (show goOn ..; first | refine q0s ?_ | refine q0v ?_ | refine q0w ?_) | (show q1g ..; refine q0i ?_) | (show q1j ..; (refine q0u (r := ?_) ?_ ?_; rotate_left 1; (focus exact h1))) | (show q0g ..; first | refine q0q ?_ | refine q0c ?_ | refine q0r ?_ | refine q0f ?_ | refine q0k ?_) | (show q0y ..; first | refine cd_t ?_ | refine cd_f ?_ | refine cd_n (fun _ => ?_) (fun _ => ?_) | refine cd_b (fun _ => ?_) (fun _ => ?_)) | refine q0a ?_ | refine q0m ?_ | refine q0l ?_ | (show retQ ..; first | refine q0o ?_ | refine q0b ?_) | refine q0e ?_)
    all_goals rfl
theorem mem_store (w : Wd) (t : Ob) (k : Nat) (v : Int) (hk : k ≤ 18446744073709551615) (hf : FewW w) (hw : fitW w = true) (ht : q4l t.label = true) (htl : t.label.length ≤ 20) :
    Pure Tryz.prog 41 [.agg (Wd.enc w), .agg (Ob.enc t), .int .u64 (k : Int), .int .u64 v] (.tup [.agg (Wd.enc (q3c w t k v).1), .bool (q3c w t k v).2]) := by
  have h1 := mem_walk w t k hk hf (q5m hw) ht htl
  have ho := q5x (t := t) (k := k) hf hw
  have hwd := q5m hw
  unfold q3c q3t
  generalize q2v w t k = R at h1 ho ⊢
  obtain ⟨⟨o, a, b⟩, e⟩ := R
  simp only at h1 ho ⊢
  cases he : (e == 0) with
  | false =>
    have he2 : (e != 0) = true := by simp [bne, he]
    simp only [Bool.false_and, Bool.false_eq_true, if_false]
    clear ho
    refine q2i (by kernel_rfl) (by simp only [go_sem, *]) (by simp only [go_sem, *]) Tryz.func41 Tryz.results41 rfl (by simp [Tryz.ntmps41]) (by kernel_rfl) ?_
    repeat' (first | (show q0x ..; first | refine q0d ?_ | refine q0p rfl ?_ | refine q0z rfl rfl ?_) | (show q1d ..; first | refine q0n rfl rfl ?_ | refine q0h rfl ?_) | (show goOn ..; first | refine q0s ?_ | refine q0v ?_ | refine q0w ?_) | (show q1g ..; refine q0i ?_) | (show q1j ..; (refine q0u (r := ?_) ?_ ?_; rotate_left 1; (focus exact h1))) | (show wGo ..; first | refine q1o ?_ | refine q1u ?_ | refine q1q ?_ | refine q1s ?_ | refine gw_u ?_ | refine q1p (fun _ => ?_) (fun _ => ?_) | refine q1t (fun _ => ?_) (fun _ => ?_) | refine q1r (fun _ => ?_) (fun _ => ?_) | refine q1v (fun _ => ?_) (fun _ => ?_)) | (show q0g ..; first | refine q0q ?_ | refine q0c ?_ | refine q0r ?_ | refine q0f ?_ | refine q0k ?_) | (show q0y ..; first | refine cd_t ?_ | refine cd_f ?_ | refine cd_n (fun _ => ?_) (fun _ => ?_) | refine cd_b (fun _ => ?_) (fun _ => ?_)) | refine q0a ?_ | refine q0m ?_ | refine q0l ?_ | (show retQ ..; first | refine q0o ?_ | refine q0b ?_) | refine q0e ?_)
    all_goals rfl
  | true =>
    have he2 : (e != 0) = false := by simp [bne, he]
    obtain ⟨hmem, hkd, _, h0, h9⟩ := ho he
    simp only at h0 h9 hmem hkd
    have hs := fit_sound hwd hmem
    have h2 := label_leq t.label o.label (by have := (hf.ob o hmem).1; omega)
    rw [leq_eq ht (sound_fit hs)] at h2
    have h3 := seg_put o a v h0 (by have := (hf.ob o hmem).2.2.1; omega)
    rw [put_ok hkd h9] at h3
    have h4 := put_c w (setO o a v) (q5s hwd).1 (by have := hf.n; omega)
    generalize setO o a v = p at h3 h4 ⊢
    generalize leqR t.label o.label = q at h2 ⊢
    clear ho hmem hs
    cases b with
    | false =>
      simp only [Bool.true_and, Bool.false_and, Bool.false_eq_true, if_false]
      refine q2i (by kernel_rfl) (by simp only [go_sem, *]) (by simp only [go_sem, *]) Tryz.func41 Tryz.results41 rfl (by simp [Tryz.ntmps41]) (by kernel_rfl) ?_
      repeat' (first | (show q0x ..; first | refine q0d ?_ | refine q0p rfl ?_ | refine q0z rfl rfl ?_) | (show q1d ..; first | refine q0n rfl rfl ?_ | refine q0h rfl ?_) | (show goOn ..; first | refine q0s ?_ | refine q0v ?_ | refine q0w ?_) | (show q1g ..; refine q0i ?_) | (show q1j ..; (refine q0u (r := ?_) ?_ ?_; rotate_left 1; (focus first | exact h1 | exact h2))) | (show wGo ..; first | refine q1o ?_ | refine q1u ?_ | refine q1q ?_ | refine q1s ?_ | refine gw_u ?_ | refine q1p (fun _ => ?_) (fun _ => ?_) | refine q1t (fun _ => ?_) (fun _ => ?_) | refine q1r (fun _ => ?_) (fun _ => ?_) | refine q1v (fun _ => ?_) (fun _ => ?_)) | (show q0g ..; first | refine q0q ?_ | refine q0c ?_ | refine q0r ?_ | refine q0f ?_ | refine q0k ?_) | (show q0y ..; first | refine cd_t ?_ | refine cd_f ?_ | refine cd_n (fun _ => ?_) (fun _ => ?_) | refine cd_b (fun _ => ?_) (fun _ => ?_)) | refine q0a ?_ | refine q0m ?_ | refine q0l ?_ | (show retQ ..; first | refine q0o ?_ | refine q0b ?_) | refine q0e ?_)
      all_goals rfl
    | true =>
    cases q with
    | false =>
      simp only [Bool.true_and, Bool.false_and, Bool.false_eq_true, if_false]
      refine q2i (by kernel_rfl) (by simp only [go_sem, *]) (by simp only [go_sem, *]) Tryz.func41 Tryz.results41 rfl (by simp [Tryz.ntmps41]) (by kernel_rfl) ?_
      repeat' (first | (show q0x ..; first | refine q0d ?_ | refine q0p rfl ?_ | refine q0z rfl rfl ?_) | (show q1d ..; first | refine q0n rfl rfl ?_ | refine q0h rfl ?_) | (show goOn ..; first | refine q0s ?_ | refine q0v ?_ | refine q0w ?_) | (show q1g ..; refine q0i ?_) | (show q1j ..; (refine q0u (r := ?_) ?_ ?_; rotate_left 1; (focus first | exact h1 | exact h2))) | (show wGo ..; first | refine q1o ?_ | refine q1u ?_ | refine q1q ?_ | refine q1s ?_ | refine gw_u ?_ | refine q1p (fun _ => ?_) (fun _ => ?_) | refine q1t (fun _ => ?_) (fun _ => ?_) | refine q1r (fun _ => ?_) (fun _ => ?_) | refine q1v (fun _ => ?_) (fun _ => ?_)) | (show q0g ..; first | refine q0q ?_ | refine q0c ?_ | refine q0r ?_ | refine q0f ?_ | refine q0k ?_) | (show q0y ..; first | refine cd_t ?_ | refine cd_f ?_ | refine cd_n (fun _ => ?_) (fun _ => ?_) | refine cd_b (fun _ => ?_) (fun _ => ?_)) | refine q0a ?_ | refine q0m ?_ | refine q0l ?_ | (show retQ ..; first | refine q0o ?_ | refine q0b ?_) | refine q0e ?_)
      all_goals rfl
    | true =>
      simp only [Bool.true_and, if_true]
      refine q2i (by kernel_rfl) (by simp only [go_sem, *]) (by simp only [go_sem, *]) Tryz.func41 Tryz.results41 rfl (by simp [Tryz.ntmps41]) (by kernel_rfl) ?_
      repeat' (first | (show q0x ..; first | refine q0d ?_ | refine q0p rfl ?_ | refine q0z rfl rfl ?_) | (show q1d ..; first | refine q0n rfl rfl ?_ | refine q0h rfl ?_) | (show goOn ..; first | refine q0s ?_ | refine q0v ?_ | refine q0w ?_) | (show q1g ..; refine q0i ?_) | (show q1j ..; (refine q0u (r := ?_) ?_ ?_; rotate_left 1; (focus first | exact h1 | exact h2 | exact h3 | exact h4))) | (show wGo ..; first | refine q1o ?_ | refine q1u ?_ | refine q1q ?_ | refine q1s ?_ | refine gw_u ?_ | refine q1p (fun _ => ?_) (fun _ => ?_) | refine q1t (fun _ => ?_) (fun _ => ?_) | refine q1r (fun _ => ?_) (fun _ => ?_) | refine q1v (fun _ => ?_) (fun _ => ?_)) | (show q0g ..; first | refine q0q ?_ | refine q0c ?_ | refine q0r ?_ | refine q0f ?_ | refine q0k ?_) | (show q0y ..; first | refine cd_t ?_ | refine cd_f ?_ | refine cd_n (fun _ => ?_) (fun _ => ?_) | refine cd_b (fun _ => ?_) (fun _ => ?_)) | refine q0a ?_ | refine q0m ?_ | refine q0l ?_ | (show retQ ..; first | refine q0o ?_ | refine q0b ?_) | refine q0e ?_)
      all_goals rfl
theorem r18_store (w : Wd) (t : Ob) (k : Nat) (v : Int) (hk : k ≤ 18446744073709551615) (hf : FewW w) (hw : fitW w = true) (htl : t.label.length ≤ 20) :
    Pure Tryz.prog 42 [.agg (Wd.enc w), .agg (Ob.enc t), .int .u64 (k : Int), .int .u64 v] (.tup [.agg (Wd.enc (q3c w t k v).1), .bool (q3c w t k v).2]) := by
  have h1 := r18_walk w t k hk hf (q5m hw) htl
  have ho := q5x (t := t) (k := k) hf hw
  have hwd := q5m hw
  unfold q3c q3t
  generalize q2v w t k = R at h1 ho ⊢
  obtain ⟨⟨o, a, b⟩, e⟩ := R
  simp only at h1 ho ⊢
  cases he : (e == 0) with
  | false =>
    have he2 : (e != 0) = true := by simp [bne, he]
    simp only [Bool.false_and, Bool.false_eq_true, if_false]
    clear ho
    refine q2i (by kernel_rfl) (by simp only [go_sem, *]) (by simp only [go_sem, *]) Tryz.func42 Tryz.results42 rfl (by simp [Tryz.ntmps42]) (by kernel_rfl) ?_
    repeat' (first | (show q0x ..; first | refine q0d ?_ | refine q0p rfl ?_ | refine q0z rfl rfl ?_) | (show q1d ..; first | refine q0n rfl rfl ?_ | refine q0h rfl ?_) | (show goOn ..; first | refine q0s ?_ | refine q0v ?_ | refine q0w ?_) | (show q1g ..; refine q0i ?_) | (show q1j ..; (refine q0u (r := ?_) ?_ ?_; rotate_left 1; (focus exact h1))) | (show wGo ..; first | refine q1o ?_ | refine q1u ?_ | refine q1q ?_ | refine q1s ?_ | refine gw_u ?_ | refine q1p (fun _ => ?_) (fun _ => ?_) | refine q1t (fun _ => ?_) (fun _ => ?_) | refine q1r (fun _ => ?_) (fun _ => ?_) | refine q1v (fun _ => ?_) (fun _ => ?_)) | (show q0g ..; first | refine q0q ?_ | refine q0c ?_ | refine q0r ?_ | refine q0f ?_ | refine q0k ?_) | (show q0y ..; first | refine cd_t ?_ | refine cd_f ?_ | refine cd_n (fun _ => ?_) (fun _ => ?_) | refine cd_b (fun _ => ?_) (fun _ => ?_)) | refine q0a ?_ | refine q0m ?_ | refine q0l ?_ | (show retQ ..; first | refine q0o ?_ | refine q0b ?_) | refine q0e ?_)
    all_goals rfl
  | true =>
    have he2 : (e != 0) = false := by simp [bne, he]
    obtain ⟨hmem, hkd, _, h0, h9⟩ := ho he
    simp only at h0 h9 hmem hkd
    have h2 := r2_leq t.label o.label (by omega) (by have := (hf.ob o hmem).1; omega)
    have h3 := r16_put o a v h0 (by have := (hf.ob o hmem).2.2.1; omega)
    rw [put_ok hkd h9] at h3
    have h4 := putR_c w (setO o a v) (q5s hwd).1 (by have := hf.n; omega)
    generalize setO o a v = p at h3 h4 ⊢
    generalize leqR t.label o.label = q at h2 ⊢
    clear ho hmem
    cases b with
    | false =>
      simp only [Bool.true_and, Bool.false_and, Bool.false_eq_true, if_false]
      refine q2i (by kernel_rfl) (by simp only [go_sem, *]) (by simp only [go_sem, *]) Tryz.func42 Tryz.results42 rfl (by simp [Tryz.ntmps42]) (by kernel_rfl) ?_
      repeat' (first | (show q0x ..; first | refine q0d ?_ | refine q0p rfl ?_ | refine q0z rfl rfl ?_) | (show q1d ..; first | refine q0n rfl rfl ?_ | refine q0h rfl ?_) | (show goOn ..; first | refine q0s ?_ | refine q0v ?_ | refine q0w ?_) | (show q1g ..; refine q0i ?_) | (show q1j ..; (refine q0u (r := ?_) ?_ ?_; rotate_left 1; (focus first | exact h1 | exact h2))) | (show wGo ..; first | refine q1o ?_ | refine q1u ?_ | refine q1q ?_ | refine q1s ?_ | refine gw_u ?_ | refine q1p (fun _ => ?_) (fun _ => ?_) | refine q1t (fun _ => ?_) (fun _ => ?_) | refine q1r (fun _ => ?_) (fun _ => ?_) | refine q1v (fun _ => ?_) (fun _ => ?_)) | (show q0g ..; first | refine q0q ?_ | refine q0c ?_ | refine q0r ?_ | refine q0f ?_ | refine q0k ?_) | (show q0y ..; first | refine cd_t ?_ | refine cd_f ?_ | refine cd_n (fun _ => ?_) (fun _ => ?_) | refine cd_b (fun _ => ?_) (fun _ => ?_)) | refine q0a ?_ | refine q0m ?_ | refine q0l ?_ | (show retQ ..; first | refine q0o ?_ | refine q0b ?_) | refine q0e ?_)
      all_goals rfl
    | true =>
    cases q with
    | false =>
      simp only [Bool.true_and, Bool.false_and, Bool.false_eq_true, if_false]
      refine q2i (by kernel_rfl) (by simp only [go_sem, *]) (by simp only [go_sem, *]) Tryz.func42 Tryz.results42 rfl (by simp [Tryz.ntmps42]) (by kernel_rfl) ?_
      repeat' (first | (show q0x ..; first | refine q0d ?_ | refine q0p rfl ?_ | refine q0z rfl rfl ?_) | (show q1d ..; first | refine q0n rfl rfl ?_ | refine q0h rfl ?_) | (show goOn ..; first | refine q0s ?_ | refine q0v ?_ | refine q0w ?_) | (show q1g ..; refine q0i ?_) | (show q1j ..; (refine q0u (r := ?_) ?_ ?_; rotate_left 1; (focus first | exact h1 | exact h2))) | (show wGo ..; first | refine q1o ?_ | refine q1u ?_ | refine q1q ?_ | refine q1s ?_ | refine gw_u ?_ | refine q1p (fun _ => ?_) (fun _ => ?_) | refine q1t (fun _ => ?_) (fun _ => ?_) | refine q1r (fun _ => ?_) (fun _ => ?_) | refine q1v (fun _ => ?_) (fun _ => ?_)) | (show q0g ..; first | refine q0q ?_ | refine q0c ?_ | refine q0r ?_ | refine q0f ?_ | refine q0k ?_) | (show q0y ..; first | refine cd_t ?_ | refine cd_f ?_ | refine cd_n (fun _ => ?_) (fun _ => ?_) | refine cd_b (fun _ => ?_) (fun _ => ?_)) | refine q0a ?_ | refine q0m ?_ | refine q0l ?_ | (show retQ ..; first | refine q0o ?_ | refine q0b ?_) | refine q0e ?_)
      all_goals rfl
    | true =>
      simp only [Bool.true_and, if_true]
      refine q2i (by kernel_rfl) (by simp only [go_sem, *]) (by simp only [go_sem, *]) Tryz.func42 Tryz.results42 rfl (by simp [Tryz.ntmps42]) (by kernel_rfl) ?_
      repeat' (first | (show q0x ..; first | refine q0d ?_ | refine q0p rfl ?_ | refine q0z rfl rfl ?_) | (show q1d ..; first | refine q0n rfl rfl ?_ | refine q0h rfl ?_) | (show goOn ..; first | refine q0s ?_ | refine q0v ?_ | refine q0w ?_) | (show q1g ..; refine q0i ?_) | (show q1j ..; (refine q0u (r := ?_) ?_ ?_; rotate_left 1; (focus first | exact h1 | exact h2 | exact h3 | exact h4))) | (show wGo ..; first | refine q1o ?_ | refine q1u ?_ | refine q1q ?_ | refine q1s ?_ | refine gw_u ?_ | refine q1p (fun _ => ?_) (fun _ => ?_) | refine q1t (fun _ => ?_) (fun _ => ?_) | refine q1r (fun _ => ?_) (fun _ => ?_) | refine q1v (fun _ => ?_) (fun _ => ?_)) | (show q0g ..; first | refine q0q ?_ | refine q0c ?_ | refine q0r ?_ | refine q0f ?_ | refine q0k ?_) | (show q0y ..; first | refine cd_t ?_ | refine cd_f ?_ | refine cd_n (fun _ => ?_) (fun _ => ?_) | refine cd_b (fun _ => ?_) (fun _ => ?_)) | refine q0a ?_ | refine q0m ?_ | refine q0l ?_ | (show retQ ..; first | refine q0o ?_ | refine q0b ?_) | refine q0e ?_)
      all_goals rfl
end Go.Proofs.YteibeoipnjhicaaGreat
