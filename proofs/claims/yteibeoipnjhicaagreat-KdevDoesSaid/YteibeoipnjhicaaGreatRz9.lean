import Derived.Test.YteibeoipnjhicaaGreatKd1
import Derived.Test.YteibeoipnjhicaaGreatKfw
import Derived.Test.YteibeoipnjhicaaGreatRz6
import Derived.Test.YteibeoipnjhicaaGreatRz7
section
namespace Go.Proofs.YteibeoipnjhicaaGreat.kdev
open Go Go.RowKit Go.Proofs.YteibeoipnjhicaaGreat
set_option linter.unusedVariables false
set_option linter.unusedSimpArgs false
set_option maxHeartbeats 16000000
set_option maxRecDepth 100000
theorem q7c {w : Wd} {t : Ob} {r : Rf} {k : Int} (hw : fitW w = true) (hk : (k == 0) = false) (h : ((q4i w t r k).2 == 0) = true) : (q4i w t r k).1 ∈ w.objects ∧ ((q4i w t r k).1.kind == k) = true ∧ chgR t (q4i w t r k).1 = true := by
  unfold q4i at h ⊢
  split at h
  · rename_i h1
    rw [if_pos h1]
    split at h
    · rename_i h2
      rw [if_pos h2]
      exact ⟨(see_in hw h1).1, see_kind hk h1, h2⟩
    · cases h
  · rename_i h1; exact absurd h h1
theorem dev_snd {o : Ob} (hs : sound o = true) (hk : (o.kind == 6) = true) : o.inn.length ≤ 64 ∧ o.out.length ≤ 1024 := by
  have hk' : o.kind = 6 := by simpa using hk
  unfold sound inner at hs
  simp only [hk', Bool.and_eq_true, decide_eq_true_eq] at hs
  obtain ⟨_, _, h⟩ := hs
  simp at h
  omega
theorem dev_len {w : Wd} {t : Ob} {a : Nat → Int} (hw : fitW w = true) : (devR w t a).1.inn.length ≤ 1000 := by
  cases h : ((devR w t a).2 == 0) with
  | true =>
    obtain ⟨h1, h2, _⟩ := q7c (w := w) (t := t) (r := ⟨a 0, a 1⟩) (k := 6) hw rfl h
    have := dev_snd (q6c (q5i hw) h1) h2
    unfold devR
    omega
  | false =>
    unfold devR at h ⊢
    rw [change_zero h]
    exact Nat.zero_le _
theorem dev_sound {o : Ob} (hs : sound o = true) (hk : (o.kind == 6) = true) (i o' : List Int) (hi : i.length ≤ 64) (ho : o'.length ≤ 1024) : sound { o with inn := i, out := o' } = true := by
  have hk' : o.kind = 6 := by simpa using hk
  unfold sound q7o inner aloneOf q8r at hs ⊢
  simp only [hk'] at hs ⊢
  simp at hs ⊢
  simp_all
  omega
attribute [local irreducible] q0z dr q0i Ex.then Ex.inBlock retQ q1r q3e q3c Pure CSat evOp q2n rdOf upd hset strip sp0 cut envL q3f q4c Keep BdL evBs q3m q4a
theorem do_doC (t : Ob) (w : Wd) (n : Int) (a : Nat → Int) (hf : FewW w) (hw : fitW w = true) (ht : q4h t.label = true) (htl : t.label.length ≤ 20) : DoC t w n a (q5o w t n a) := by
  have hwd := q5i hw
  intro H hb
  have hc := out_csat (H := H) t w a hb hf hwd ht htl
  have hd := in_csat (H := H) t w a hb hf hwd ht htl (dev_len hw)
  unfold q5o
  cases h1 : (n == 41) with
  | true =>
    simp only [if_true]
    generalize outR w t a = R at hc ⊢
    obtain ⟨x, v, e, k⟩ := R
    simp only at hc ⊢
    cases he : (e == 0) with
    | true =>
      refine q4s (by kernel_rfl) Tryz.func65 Tryz.results65 rfl (by simp [Tryz.ntmps65]) (by kernel_rfl) ?_
      repeat' (first | (show q0z ..; first | refine q0d ?_ | refine q0p rfl ?_) | (show q1f ..; first | refine q0n rfl rfl ?_ | refine q0g rfl ?_) | (show goOn ..; first | refine q0s ?_ | refine q0u ?_ | refine q0v ?_) | (show q1i ..; refine q0j ?_) | (show q0i ..; first | refine q0q ?_ | refine q0c ?_ | refine q0r ?_ | refine q0f ?_ | refine q0l ?_ | refine q0x ?_ | refine q0t ?_) | (show q1d ..; first | refine cd_t ?_ | refine cd_f ?_ | refine cd_n (fun _ => ?_) (fun _ => ?_) | refine cd_b (fun _ => ?_) (fun _ => ?_)) | refine q0a ?_ | refine q0m ?_ | refine q0k ?_ | refine q0w ?_ | refine q0h ?_ | refine q0y ?_ | refine bl_pass rfl ?_ | refine q1g ?_ | refine q1e ?_ | (show retQ ..; first | refine q0o ?_ | refine q0b ?_) | refine q0e ?_)
      (refine q2h (by kernel_rfl) (hc) ?_ ?_)
      case refine_2 => rintro p H' m' ⟨h1, _⟩; obtain ⟨⟨r, hr⟩, _⟩ := h1 he; cases hr
      rintro r H1 m1 ⟨h1, _, L1, A1⟩
      obtain ⟨_, rfl, rfl, c7⟩ := h1 he
      repeat' (first | (show q0z ..; first | refine q0d ?_ | refine q0p rfl ?_) | (show q1f ..; first | refine q0n rfl rfl ?_ | refine q0g rfl ?_) | (show goOn ..; first | refine q0s ?_ | refine q0u ?_ | refine q0v ?_) | (show q1i ..; refine q0j ?_) | (show q0i ..; first | refine q0q ?_ | refine q0c ?_ | refine q0r ?_ | refine q0f ?_ | refine q0l ?_ | refine q0x ?_ | refine q0t ?_) | (show q1d ..; first | refine cd_t ?_ | refine cd_f ?_ | refine cd_n (fun _ => ?_) (fun _ => ?_) | refine cd_b (fun _ => ?_) (fun _ => ?_)) | refine q0a ?_ | refine q0m ?_ | refine q0k ?_ | refine q0w ?_ | refine q0h ?_ | refine q0y ?_ | refine bl_pass rfl ?_ | refine q1g ?_ | refine q1e ?_ | (show retQ ..; first | refine q0o ?_ | refine q0b ?_) | refine q0e ?_)
      exact ⟨(fun _ => ⟨rfl, _, c7⟩), (fun h => by first | (rw [he] at h; cases h) | cases h), L1, A1⟩
    | false =>
      refine q4s (by kernel_rfl) Tryz.func65 Tryz.results65 rfl (by simp [Tryz.ntmps65]) (by kernel_rfl) ?_
      repeat' (first | (show q0z ..; first | refine q0d ?_ | refine q0p rfl ?_) | (show q1f ..; first | refine q0n rfl rfl ?_ | refine q0g rfl ?_) | (show goOn ..; first | refine q0s ?_ | refine q0u ?_ | refine q0v ?_) | (show q1i ..; refine q0j ?_) | (show q0i ..; first | refine q0q ?_ | refine q0c ?_ | refine q0r ?_ | refine q0f ?_ | refine q0l ?_ | refine q0x ?_ | refine q0t ?_) | (show q1d ..; first | refine cd_t ?_ | refine cd_f ?_ | refine cd_n (fun _ => ?_) (fun _ => ?_) | refine cd_b (fun _ => ?_) (fun _ => ?_)) | refine q0a ?_ | refine q0m ?_ | refine q0k ?_ | refine q0w ?_ | refine q0h ?_ | refine q0y ?_ | refine bl_pass rfl ?_ | refine q1g ?_ | refine q1e ?_ | (show retQ ..; first | refine q0o ?_ | refine q0b ?_) | refine q0e ?_)
      (refine q2h (by kernel_rfl) (hc) ?_ ?_)
      case refine_1 => rintro r H' m' ⟨_, h2, _⟩; have := h2 he; cases this
      rintro p H1 m1 ⟨_, h2, L1, A1⟩
      have ho := h2 he
      cases ho
      repeat' (first | refine q0k ?_ | refine q1e ?_ | refine q4v ?_)
      exact ⟨(fun h => by first | (rw [he] at h; cases h) | cases h), (fun _ => rfl), L1, A1⟩
  | false =>
  cases h2 : (n == 42) with
  | true =>
    simp only [if_true, Bool.false_eq_true, if_false]
    generalize inR w t a = R at hd ⊢
    obtain ⟨x, v, e, k⟩ := R
    simp only at hd ⊢
    cases he : (e == 0) with
    | true =>
      refine q4s (by kernel_rfl) Tryz.func65 Tryz.results65 rfl (by simp [Tryz.ntmps65]) (by kernel_rfl) ?_
      repeat' (first | (show q0z ..; first | refine q0d ?_ | refine q0p rfl ?_) | (show q1f ..; first | refine q0n rfl rfl ?_ | refine q0g rfl ?_) | (show goOn ..; first | refine q0s ?_ | refine q0u ?_ | refine q0v ?_) | (show q1i ..; refine q0j ?_) | (show q0i ..; first | refine q0q ?_ | refine q0c ?_ | refine q0r ?_ | refine q0f ?_ | refine q0l ?_ | refine q0x ?_ | refine q0t ?_) | (show q1d ..; first | refine cd_t ?_ | refine cd_f ?_ | refine cd_n (fun _ => ?_) (fun _ => ?_) | refine cd_b (fun _ => ?_) (fun _ => ?_)) | refine q0a ?_ | refine q0m ?_ | refine q0k ?_ | refine q0w ?_ | refine q0h ?_ | refine q0y ?_ | refine bl_pass rfl ?_ | refine q1g ?_ | refine q1e ?_ | (show retQ ..; first | refine q0o ?_ | refine q0b ?_) | refine q0e ?_)
      (refine q2h (by kernel_rfl) (hd) ?_ ?_)
      case refine_2 => rintro p H' m' ⟨h1, _⟩; have := (h1 he).1; cases this
      rintro r H1 m1 ⟨h1, _, L1, A1⟩
      obtain ⟨hr, rfl, c7⟩ := h1 he
      cases hr
      repeat' (first | (show q0z ..; first | refine q0d ?_ | refine q0p rfl ?_) | (show q1f ..; first | refine q0n rfl rfl ?_ | refine q0g rfl ?_) | (show goOn ..; first | refine q0s ?_ | refine q0u ?_ | refine q0v ?_) | (show q1i ..; refine q0j ?_) | (show q0i ..; first | refine q0q ?_ | refine q0c ?_ | refine q0r ?_ | refine q0f ?_ | refine q0l ?_ | refine q0x ?_ | refine q0t ?_) | (show q1d ..; first | refine cd_t ?_ | refine cd_f ?_ | refine cd_n (fun _ => ?_) (fun _ => ?_) | refine cd_b (fun _ => ?_) (fun _ => ?_)) | refine q0a ?_ | refine q0m ?_ | refine q0k ?_ | refine q0w ?_ | refine q0h ?_ | refine q0y ?_ | refine bl_pass rfl ?_ | refine q1g ?_ | refine q1e ?_ | (show retQ ..; first | refine q0o ?_ | refine q0b ?_) | refine q0e ?_)
      exact ⟨(fun _ => ⟨rfl, _, c7⟩), (fun h => by first | (rw [he] at h; cases h) | cases h), L1, A1⟩
    | false =>
      refine q4s (by kernel_rfl) Tryz.func65 Tryz.results65 rfl (by simp [Tryz.ntmps65]) (by kernel_rfl) ?_
      repeat' (first | (show q0z ..; first | refine q0d ?_ | refine q0p rfl ?_) | (show q1f ..; first | refine q0n rfl rfl ?_ | refine q0g rfl ?_) | (show goOn ..; first | refine q0s ?_ | refine q0u ?_ | refine q0v ?_) | (show q1i ..; refine q0j ?_) | (show q0i ..; first | refine q0q ?_ | refine q0c ?_ | refine q0r ?_ | refine q0f ?_ | refine q0l ?_ | refine q0x ?_ | refine q0t ?_) | (show q1d ..; first | refine cd_t ?_ | refine cd_f ?_ | refine cd_n (fun _ => ?_) (fun _ => ?_) | refine cd_b (fun _ => ?_) (fun _ => ?_)) | refine q0a ?_ | refine q0m ?_ | refine q0k ?_ | refine q0w ?_ | refine q0h ?_ | refine q0y ?_ | refine bl_pass rfl ?_ | refine q1g ?_ | refine q1e ?_ | (show retQ ..; first | refine q0o ?_ | refine q0b ?_) | refine q0e ?_)
      (refine q2h (by kernel_rfl) (hd) ?_ ?_)
      case refine_1 => rintro r H' m' ⟨_, h2, _⟩; have := h2 he; cases this
      rintro p H1 m1 ⟨_, h2, L1, A1⟩
      have ho := h2 he
      cases ho
      repeat' (first | refine q0k ?_ | refine q1e ?_ | refine q4v ?_)
      exact ⟨(fun h => by first | (rw [he] at h; cases h) | cases h), (fun _ => rfl), L1, A1⟩
  | false =>
    simp only [Bool.false_eq_true, if_false]
    refine q4s (by kernel_rfl) Tryz.func65 Tryz.results65 rfl (by simp [Tryz.ntmps65]) (by kernel_rfl) ?_
    repeat' (first | (show q0z ..; first | refine q0d ?_ | refine q0p rfl ?_) | (show q1f ..; first | refine q0n rfl rfl ?_ | refine q0g rfl ?_) | (show goOn ..; first | refine q0s ?_ | refine q0u ?_ | refine q0v ?_) | (show q1i ..; refine q0j ?_) | (show q0i ..; first | refine q0q ?_ | refine q0c ?_ | refine q0r ?_ | refine q0f ?_ | refine q0l ?_ | refine q0x ?_ | refine q0t ?_) | (show q1d ..; first | refine cd_t ?_ | refine cd_f ?_ | refine cd_n (fun _ => ?_) (fun _ => ?_) | refine cd_b (fun _ => ?_) (fun _ => ?_)) | refine q0a ?_ | refine q0m ?_ | refine q0k ?_ | refine q0w ?_ | refine q0h ?_ | refine q0y ?_ | refine bl_pass rfl ?_ | refine q1g ?_ | refine q1e ?_ | (show retQ ..; first | refine q0o ?_ | refine q0b ?_) | refine q0e ?_)
    exact ⟨(fun _ => ⟨rfl, _, hb⟩), (fun h => by cases h), by omega, (fun j hj => rfl)⟩
theorem thr_okay {w : Wd} (hf : FewW w) (hw : fitW w = true) (id : Int) : q4h (q3b w id).1.label = true ∧ (q3b w id).1.label.length ≤ 20 := ⟨(okay_fit (q9h hf (q5i hw) id)).2, q7a hf id⟩
theorem find_p {w : Wd} (hf : FewW w) (hw : fitW w = true) (id : Int) : Pure Tryz.prog 63 [.agg (Wd.enc w), .int .u64 id] (.tup [.agg (Ob.enc (q3b w id).1), .bool (q3b w id).2]) := by
  have := obj_find w id (by have := hf.n; omega) (q5c (q5i hw)).1
  rw [findO_eq (q5c (q5i hw)).1] at this
  exact this
theorem kdev_err (w : Wd) (t : Ob) (n : Int) (a : Nat → Int) (h : ((q5o w t n a).2.2.1 == 0) = false) : (q5o w t n a).1 = w ∧ (q5o w t n a).2.1 = 0 ∧ (q5o w t n a).2.2.2 = true := by
  unfold q5o outR inR at h ⊢
  generalize devR w t a = D at h ⊢
  obtain ⟨o, e⟩ := D
  simp only at h ⊢
  split at h
  · rename_i h1
    rw [if_pos h1]
    split at h
    · rename_i h2
      rw [if_pos h2]
      split at h
      · cases h
      · rename_i h3; rw [if_neg h3]; exact ⟨rfl, rfl, rfl⟩
    · rename_i h2; rw [if_neg h2]; exact ⟨rfl, rfl, rfl⟩
  · rename_i h1
    rw [if_neg h1]
    split at h
    · rename_i h2
      rw [if_pos h2]
      split at h
      · rename_i h3
        rw [if_pos h3]
        cases hi : o.inn with
        | nil => exact ⟨rfl, rfl, rfl⟩
        | cons x l => rw [hi] at h; cases h
      · rename_i h3; rw [if_neg h3]; exact ⟨rfl, rfl, rfl⟩
    · cases h
theorem kdev_do (w : Wd) (id n : Int) (a : Nat → Int) (hf : FewW w) (hw : fitW w = true) :
    Pure Tryz.prog 23 [.agg (Wd.enc w), .int .u64 id, .int .i64 n, .agg (args a)] (.tup [.agg (Wd.enc (q5o w (q3b w id).1 n a).1), .int .u64 (q5o w (q3b w id).1 n a).2.1, .int .i64 (q5o w (q3b w id).1 n a).2.2.1, .bool (q5o w (q3b w id).1 n a).2.2.2]) :=
  do_pure w id n a _ _ _ (find_p hf hw id) (do_doC _ w n a hf hw (thr_okay hf hw id).1 (thr_okay hf hw id).2) (kdev_err _ _ _ _)
@[go_sem] theorem spl2_out (x : Ob) (b : Int) (v : List Int) : splice (Ob.enc x) 50 [.sl (u64 b :: List.map u64 v)] = Ob.enc { x with out := b :: v } := by kernel_rfl
theorem r24_do (w : Wd) (id n : Int) (a : Nat → Int) (hf : FewW w) (hw : fitW w = true) :
    Pure Tryz.prog 24 [.agg (Wd.enc w), .int .u64 id, .int .i64 n, .agg (args a)] (.tup [.agg (Wd.enc (q5o w (q3b w id).1 n a).1), .int .u64 (q5o w (q3b w id).1 n a).2.1, .int .i64 (q5o w (q3b w id).1 n a).2.2.1, .bool (q5o w (q3b w id).1 n a).2.2.2]) := by
  have h1 := q5w w id (by have := hf.n; omega)
  have htl := (thr_okay hf hw id).2
  have h2 := r17_change w (q3b w id).1 ⟨a 0, a 1⟩ 6 hf htl
  have hs : ((devR w (q3b w id).1 a).2 == 0) = true → (devR w (q3b w id).1 a).1.out.length ≤ 1024 ∧ (devR w (q3b w id).1 a).1.inn.length ≤ 64 := fun h => by
    obtain ⟨g1, g2, _⟩ := q7c (w := w) (t := (q3b w id).1) (r := ⟨a 0, a 1⟩) (k := 6) hw rfl h
    have := dev_snd (q6c (q5i hw) g1) g2
    exact ⟨this.2, this.1⟩
  have hput := fun p => putR_c w p (q5c (q5i hw)).1 (by have := hf.n; omega)
  unfold q5o outR inR
  unfold devR at hs ⊢
  generalize q3b w id = F at h1 h2 hs ⊢
  obtain ⟨t, b⟩ := F
  simp only at h1 h2 hs ⊢
  generalize q4i w t ⟨a 0, a 1⟩ 6 = D at h2 hs ⊢
  obtain ⟨o, e⟩ := D
  simp only at h2 hs ⊢
  cases g1 : (n == 41) with
  | true =>
    have g1' : (n != 41) = false := by simp [bne, g1]
    simp only [if_true]
    cases he : (e == 0) with
    | false =>
      have he' : (e != 0) = true := by simp [bne, he]
      simp only [Bool.false_eq_true, if_false]
      refine q2z (by kernel_rfl) (by simp only [go_sem, *]) (by simp only [go_sem, *]) Tryz.func24 Tryz.results24 rfl (by simp [Tryz.ntmps24]) (by kernel_rfl) ?_
      repeat' (first | (show q0z ..; first | refine q0d ?_ | refine q0p rfl ?_ | refine q1b rfl rfl ?_) | (show q1f ..; first | refine q0n rfl rfl ?_ | refine q0g rfl ?_) | (show goOn ..; first | refine q0s ?_ | refine q0u ?_ | refine q0v ?_ | refine q1u ?_ | refine q1t ?_) | (show q1i ..; refine q0j ?_) | (show q1s ..; (refine q1a (r := ?_) ?_ ?_; rotate_left 1; (focus first | exact h1 | exact h2))) | (show wGo ..; first | refine q1w ?_ | refine q2c ?_ | refine q1y ?_ | refine q2a ?_ | refine gw_u ?_ | refine q1x (fun _ => ?_) (fun _ => ?_) | refine q2b (fun _ => ?_) (fun _ => ?_) | refine q1z (fun _ => ?_) (fun _ => ?_) | refine q2d (fun _ => ?_) (fun _ => ?_)) | (show q0i ..; first | refine q0q ?_ | refine q0c ?_ | refine q0r ?_ | refine q0f ?_ | refine q0l ?_ | refine q0x ?_ | refine q0t ?_) | (show q1d ..; first | refine cd_t ?_ | refine cd_f ?_ | refine cd_n (fun _ => ?_) (fun _ => ?_) | refine cd_b (fun _ => ?_) (fun _ => ?_)) | refine q0a ?_ | refine q0m ?_ | refine q0k ?_ | refine q0w ?_ | refine q0h ?_ | refine q0y ?_ | refine bl_pass rfl ?_ | refine q1g ?_ | refine q1e ?_ | (show retQ ..; first | refine q0o ?_ | refine q0b ?_) | refine q0e ?_)
      all_goals rfl
    | true =>
      have he' : (e != 0) = false := by simp [bne, he]
      have hs := (hs he).1
      simp only [if_true]
      obtain ⟨oid, kind, label, quota, fixed, links, data, maps, thread, gate, inn, out⟩ := o
      simp only at hs ⊢
      cases hl : decide ((out.length : Int) < 1024) with
      | false =>
        have hl' : decide ((out.length : Int) ≥ 1024) = true := decide_eq_true (by have := of_decide_eq_false hl; omega)
        simp only [Bool.false_eq_true, if_false]
        refine q2z (by kernel_rfl) (by simp only [go_sem, *]) (by simp only [go_sem, *]) Tryz.func24 Tryz.results24 rfl (by simp [Tryz.ntmps24]) (by kernel_rfl) ?_
        repeat' (first | (show q0z ..; first | refine q0d ?_ | refine q0p rfl ?_ | refine q1b rfl rfl ?_) | (show q1f ..; first | refine q0n rfl rfl ?_ | refine q0g rfl ?_) | (show goOn ..; first | refine q0s ?_ | refine q0u ?_ | refine q0v ?_ | refine q1u ?_ | refine q1t ?_) | (show q1i ..; refine q0j ?_) | (show q1s ..; (refine q1a (r := ?_) ?_ ?_; rotate_left 1; (focus first | exact h1 | exact h2))) | (show wGo ..; first | refine q1w ?_ | refine q2c ?_ | refine q1y ?_ | refine q2a ?_ | refine gw_u ?_ | refine q1x (fun _ => ?_) (fun _ => ?_) | refine q2b (fun _ => ?_) (fun _ => ?_) | refine q1z (fun _ => ?_) (fun _ => ?_) | refine q2d (fun _ => ?_) (fun _ => ?_)) | (show q0i ..; first | refine q0q ?_ | refine q0c ?_ | refine q0r ?_ | refine q0f ?_ | refine q0l ?_ | refine q0x ?_ | refine q0t ?_) | (show q1d ..; first | refine cd_t ?_ | refine cd_f ?_ | refine cd_n (fun _ => ?_) (fun _ => ?_) | refine cd_b (fun _ => ?_) (fun _ => ?_)) | refine q0a ?_ | refine q0m ?_ | refine q0k ?_ | refine q0w ?_ | refine q0h ?_ | refine q0y ?_ | refine bl_pass rfl ?_ | refine q1g ?_ | refine q1e ?_ | (show retQ ..; first | refine q0o ?_ | refine q0b ?_) | refine q0e ?_)
        all_goals rfl
      | true =>
        have hl' : decide ((out.length : Int) ≥ 1024) = false := decide_eq_false (by have := of_decide_eq_true hl; omega)
        simp only [if_true]
        cases out with
        | nil =>
          have h3 := hput (outO ⟨oid, kind, label, quota, fixed, links, data, maps, thread, gate, inn, []⟩ (a 2))
          unfold outO at h3 ⊢
          simp only [List.nil_append] at h3 ⊢
          refine q2z (by kernel_rfl) (by simp only [go_sem, *]) (by simp only [go_sem, *]) Tryz.func24 Tryz.results24 rfl (by simp [Tryz.ntmps24]) (by kernel_rfl) ?_
          repeat' (first | (show q0z ..; first | refine q0d ?_ | refine q0p rfl ?_ | refine q1b rfl rfl ?_) | (show q1f ..; first | refine q0n rfl rfl ?_ | refine q0g rfl ?_) | (show goOn ..; first | refine q0s ?_ | refine q0u ?_ | refine q0v ?_ | refine q1u ?_ | refine q1t ?_) | (show q1i ..; refine q0j ?_) | (show q1s ..; (refine q1a (r := ?_) ?_ ?_; rotate_left 1; (focus first | exact h1 | exact h2 | exact h3))) | (show wGo ..; first | refine q1w ?_ | refine q2c ?_ | refine q1y ?_ | refine q2a ?_ | refine gw_u ?_ | refine q1x (fun _ => ?_) (fun _ => ?_) | refine q2b (fun _ => ?_) (fun _ => ?_) | refine q1z (fun _ => ?_) (fun _ => ?_) | refine q2d (fun _ => ?_) (fun _ => ?_)) | (show q0i ..; first | refine q0q ?_ | refine q0c ?_ | refine q0r ?_ | refine q0f ?_ | refine q0l ?_ | refine q0x ?_ | refine q0t ?_) | (show q1d ..; first | refine cd_t ?_ | refine cd_f ?_ | refine cd_n (fun _ => ?_) (fun _ => ?_) | refine cd_b (fun _ => ?_) (fun _ => ?_)) | refine q0a ?_ | refine q0m ?_ | refine q0k ?_ | refine q0w ?_ | refine q0h ?_ | refine q0y ?_ | refine bl_pass rfl ?_ | refine q1g ?_ | refine q1e ?_ | (show retQ ..; first | refine q0o ?_ | refine q0b ?_) | refine q0e ?_)
          all_goals rfl
        | cons x l =>
          have h3 := hput (outO ⟨oid, kind, label, quota, fixed, links, data, maps, thread, gate, inn, x :: l⟩ (a 2))
          unfold outO at h3 ⊢
          simp only [List.cons_append, List.length_cons] at h3 hl' hs ⊢
          have k3 : ((l.length + 1) * 8 ≤ 140737488355328) = True := q6e (by omega) (by decide)
          have k4 : (l.length + 1 ≤ maxLen) = True := q5k (by omega)
          have k5 : ((l.length + 1 + 1) * 8 ≤ 140737488355328) = True := q6e (by omega) (by decide)
          have k6 : (l.length + 1 + 1 ≤ maxLen) = True := q5k (by omega)
          have k7 : ((l ++ [a 2]).length + 1 = l.length + 1 + 1) = True := eq_true (by simp)
          refine q2z (by kernel_rfl) (by simp only [go_sem, *]) (by simp only [go_sem, *]) Tryz.func24 Tryz.results24 rfl (by simp [Tryz.ntmps24]) (by kernel_rfl) ?_
          repeat' (first | (show q0z ..; first | refine q0d ?_ | refine q0p rfl ?_ | refine q1b rfl rfl ?_) | (show q1f ..; first | refine q0n rfl rfl ?_ | refine q0g rfl ?_) | (show goOn ..; first | refine q0s ?_ | refine q0u ?_ | refine q0v ?_ | refine q1u ?_ | refine q1t ?_) | (show q1i ..; refine q0j ?_) | (show q1s ..; (refine q1a (r := ?_) ?_ ?_; rotate_left 1; (focus first | exact h1 | exact h2 | exact h3))) | (show wGo ..; first | refine q1w ?_ | refine q2c ?_ | refine q1y ?_ | refine q2a ?_ | refine gw_u ?_ | refine q1x (fun _ => ?_) (fun _ => ?_) | refine q2b (fun _ => ?_) (fun _ => ?_) | refine q1z (fun _ => ?_) (fun _ => ?_) | refine q2d (fun _ => ?_) (fun _ => ?_)) | (show q0i ..; first | refine q0q ?_ | refine q0c ?_ | refine q0r ?_ | refine q0f ?_ | refine q0l ?_ | refine q0x ?_ | refine q0t ?_) | (show q1d ..; first | refine cd_t ?_ | refine cd_f ?_ | refine cd_n (fun _ => ?_) (fun _ => ?_) | refine cd_b (fun _ => ?_) (fun _ => ?_)) | refine q0a ?_ | refine q0m ?_ | refine q0k ?_ | refine q0w ?_ | refine q0h ?_ | refine q0y ?_ | refine bl_pass rfl ?_ | refine q1g ?_ | refine q1e ?_ | (show retQ ..; first | refine q0o ?_ | refine q0b ?_) | refine q0e ?_)
          all_goals rfl
  | false =>
    have g1' : (n != 41) = true := by simp [bne, g1]
    simp only [Bool.false_eq_true, if_false]
    cases g2 : (n == 42) with
    | false =>
      have g2' : (n != 42) = true := by simp [bne, g2]
      simp only [Bool.false_eq_true, if_false]
      refine q2z (by kernel_rfl) (by simp only [go_sem, *]) (by simp only [go_sem, *]) Tryz.func24 Tryz.results24 rfl (by simp [Tryz.ntmps24]) (by kernel_rfl) ?_
      repeat' (first | (show q0z ..; first | refine q0d ?_ | refine q0p rfl ?_ | refine q1b rfl rfl ?_) | (show q1f ..; first | refine q0n rfl rfl ?_ | refine q0g rfl ?_) | (show goOn ..; first | refine q0s ?_ | refine q0u ?_ | refine q0v ?_ | refine q1u ?_ | refine q1t ?_) | (show q1i ..; refine q0j ?_) | (show q1s ..; (refine q1a (r := ?_) ?_ ?_; rotate_left 1; (focus first | exact h1 | exact h2))) | (show wGo ..; first | refine q1w ?_ | refine q2c ?_ | refine q1y ?_ | refine q2a ?_ | refine gw_u ?_ | refine q1x (fun _ => ?_) (fun _ => ?_) | refine q2b (fun _ => ?_) (fun _ => ?_) | refine q1z (fun _ => ?_) (fun _ => ?_) | refine q2d (fun _ => ?_) (fun _ => ?_)) | (show q0i ..; first | refine q0q ?_ | refine q0c ?_ | refine q0r ?_ | refine q0f ?_ | refine q0l ?_ | refine q0x ?_ | refine q0t ?_) | (show q1d ..; first | refine cd_t ?_ | refine cd_f ?_ | refine cd_n (fun _ => ?_) (fun _ => ?_) | refine cd_b (fun _ => ?_) (fun _ => ?_)) | refine q0a ?_ | refine q0m ?_ | refine q0k ?_ | refine q0w ?_ | refine q0h ?_ | refine q0y ?_ | refine bl_pass rfl ?_ | refine q1g ?_ | refine q1e ?_ | (show retQ ..; first | refine q0o ?_ | refine q0b ?_) | refine q0e ?_)
      all_goals rfl
    | true =>
      have g2' : (n != 42) = false := by simp [bne, g2]
      simp only [if_true]
      cases he : (e == 0) with
      | false =>
        have he' : (e != 0) = true := by simp [bne, he]
        simp only [Bool.false_eq_true, if_false]
        refine q2z (by kernel_rfl) (by simp only [go_sem, *]) (by simp only [go_sem, *]) Tryz.func24 Tryz.results24 rfl (by simp [Tryz.ntmps24]) (by kernel_rfl) ?_
        repeat' (first | (show q0z ..; first | refine q0d ?_ | refine q0p rfl ?_ | refine q1b rfl rfl ?_) | (show q1f ..; first | refine q0n rfl rfl ?_ | refine q0g rfl ?_) | (show goOn ..; first | refine q0s ?_ | refine q0u ?_ | refine q0v ?_ | refine q1u ?_ | refine q1t ?_) | (show q1i ..; refine q0j ?_) | (show q1s ..; (refine q1a (r := ?_) ?_ ?_; rotate_left 1; (focus first | exact h1 | exact h2))) | (show wGo ..; first | refine q1w ?_ | refine q2c ?_ | refine q1y ?_ | refine q2a ?_ | refine gw_u ?_ | refine q1x (fun _ => ?_) (fun _ => ?_) | refine q2b (fun _ => ?_) (fun _ => ?_) | refine q1z (fun _ => ?_) (fun _ => ?_) | refine q2d (fun _ => ?_) (fun _ => ?_)) | (show q0i ..; first | refine q0q ?_ | refine q0c ?_ | refine q0r ?_ | refine q0f ?_ | refine q0l ?_ | refine q0x ?_ | refine q0t ?_) | (show q1d ..; first | refine cd_t ?_ | refine cd_f ?_ | refine cd_n (fun _ => ?_) (fun _ => ?_) | refine cd_b (fun _ => ?_) (fun _ => ?_)) | refine q0a ?_ | refine q0m ?_ | refine q0k ?_ | refine q0w ?_ | refine q0h ?_ | refine q0y ?_ | refine bl_pass rfl ?_ | refine q1g ?_ | refine q1e ?_ | (show retQ ..; first | refine q0o ?_ | refine q0b ?_) | refine q0e ?_)
        all_goals rfl
      | true =>
        have he' : (e != 0) = false := by simp [bne, he]
        have hs := (hs he).2
        simp only [if_true]
        obtain ⟨oid, kind, label, quota, fixed, links, data, maps, thread, gate, inn, out⟩ := o
        simp only at hs ⊢
        cases inn with
        | nil =>
          refine q2z (by kernel_rfl) (by simp only [go_sem, *]) (by simp only [go_sem, *]) Tryz.func24 Tryz.results24 rfl (by simp [Tryz.ntmps24]) (by kernel_rfl) ?_
          repeat' (first | (show q0z ..; first | refine q0d ?_ | refine q0p rfl ?_ | refine q1b rfl rfl ?_) | (show q1f ..; first | refine q0n rfl rfl ?_ | refine q0g rfl ?_) | (show goOn ..; first | refine q0s ?_ | refine q0u ?_ | refine q0v ?_ | refine q1u ?_ | refine q1t ?_) | (show q1i ..; refine q0j ?_) | (show q1s ..; (refine q1a (r := ?_) ?_ ?_; rotate_left 1; (focus first | exact h1 | exact h2))) | (show wGo ..; first | refine q1w ?_ | refine q2c ?_ | refine q1y ?_ | refine q2a ?_ | refine gw_u ?_ | refine q1x (fun _ => ?_) (fun _ => ?_) | refine q2b (fun _ => ?_) (fun _ => ?_) | refine q1z (fun _ => ?_) (fun _ => ?_) | refine q2d (fun _ => ?_) (fun _ => ?_)) | (show q0i ..; first | refine q0q ?_ | refine q0c ?_ | refine q0r ?_ | refine q0f ?_ | refine q0l ?_ | refine q0x ?_ | refine q0t ?_) | (show q1d ..; first | refine cd_t ?_ | refine cd_f ?_ | refine cd_n (fun _ => ?_) (fun _ => ?_) | refine cd_b (fun _ => ?_) (fun _ => ?_)) | refine q0a ?_ | refine q0m ?_ | refine q0k ?_ | refine q0w ?_ | refine q0h ?_ | refine q0y ?_ | refine bl_pass rfl ?_ | refine q1g ?_ | refine q1e ?_ | (show retQ ..; first | refine q0o ?_ | refine q0b ?_) | refine q0e ?_)
          all_goals rfl
        | cons x l =>
          simp only [List.length_cons] at hs
          have h3 := hput ⟨oid, kind, label, quota, fixed, links, data, maps, thread, gate, l, out⟩
          have k1 : (((l.length + 1 : Nat) : Int) == 0) = false := by simp; omega
          have k2 : ((1 : Int) ≤ ((l.length + 1 : Nat) : Int)) = True := eq_true (by omega)
          refine q2z (by kernel_rfl) (by simp only [go_sem, *]) (by simp only [go_sem, *]) Tryz.func24 Tryz.results24 rfl (by simp [Tryz.ntmps24]) (by kernel_rfl) ?_
          repeat' (first | (show q0z ..; first | refine q0d ?_ | refine q0p rfl ?_ | refine q1b rfl rfl ?_) | (show q1f ..; first | refine q0n rfl rfl ?_ | refine q0g rfl ?_) | (show goOn ..; first | refine q0s ?_ | refine q0u ?_ | refine q0v ?_ | refine q1u ?_ | refine q1t ?_) | (show q1i ..; refine q0j ?_) | (show q1s ..; (refine q1a (r := ?_) ?_ ?_; rotate_left 1; (focus first | exact h1 | exact h2 | exact h3))) | (show wGo ..; first | refine q1w ?_ | refine q2c ?_ | refine q1y ?_ | refine q2a ?_ | refine gw_u ?_ | refine q1x (fun _ => ?_) (fun _ => ?_) | refine q2b (fun _ => ?_) (fun _ => ?_) | refine q1z (fun _ => ?_) (fun _ => ?_) | refine q2d (fun _ => ?_) (fun _ => ?_)) | (show q0i ..; first | refine q0q ?_ | refine q0c ?_ | refine q0r ?_ | refine q0f ?_ | refine q0l ?_ | refine q0x ?_ | refine q0t ?_) | (show q1d ..; first | refine cd_t ?_ | refine cd_f ?_ | refine cd_n (fun _ => ?_) (fun _ => ?_) | refine cd_b (fun _ => ?_) (fun _ => ?_)) | refine q0a ?_ | refine q0m ?_ | refine q0k ?_ | refine q0w ?_ | refine q0h ?_ | refine q0y ?_ | refine bl_pass rfl ?_ | refine q1g ?_ | refine q1e ?_ | (show retQ ..; first | refine q0o ?_ | refine q0b ?_) | refine q0e ?_)
          all_goals rfl
end Go.Proofs.YteibeoipnjhicaaGreat.kdev
end

section
namespace Go.Proofs.YteibeoipnjhicaaGreat.kdev
open Go Go.RowKit Go.Proofs.YteibeoipnjhicaaGreat
set_option linter.unusedVariables false
set_option linter.unusedSimpArgs false
set_option maxHeartbeats 16000000
set_option maxRecDepth 100000
def fedO (o : Ob) (l : List Int) : Ob := { o with inn := (o.inn ++ l).take 64 }
def feed1 (w : Wd) (x : In) : Wd := if ((q3b w x.dev).1.kind == 6) = true then w.ins (fedO (q3b w x.dev).1 x.words) else w
def q6n (w : Wd) (l : List In) : Wd := l.foldl feed1 w
theorem find_k {w : Wd} {id : Int} (h : ((q3b w id).1.kind == 6) = true) : (q3b w id).2 = true ∧ (q3b w id).1 ∈ w.objects := by
  unfold q3b at h ⊢
  split
  · rename_i x hx
    exact ⟨rfl, List.mem_of_find?_eq_some hx⟩
  · rename_i hx; rw [hx] at h; cases h
theorem fed_hd (o : Ob) (l : List Int) : hd (fedO o l) = hd o := rfl
theorem dev_good {w : Wd} (g : Good w) {o : Ob} (ho : o ∈ w.objects) (hk : (o.kind == 6) = true) (i u : List Int) (hi : i.length ≤ 64) (hu : u.length ≤ 1024) : Good (w.ins { o with inn := i, out := u }) := by
  have hwd := q5i g.fit
  have hs := q6c hwd ho
  have hL := (g.L.2 o ho).1
  refine ⟨ins_L g.L ?_ (g.L.2 o ho).2 (by have := g.few.n; omega), one_few g.few hwd ho rfl (g.few.ob o ho).2.2.2, one_fit g.fit ho rfl (dev_sound hs hk i u hi hu)⟩
  obtain ⟨h1, h2, h3, h4, h5, h6, h7, h8⟩ := hL
  exact ⟨h1, h2, h3, h4, h5, h6, by show i.length ≤ _; omega, by show u.length ≤ _; omega⟩
theorem feed1_good {w : Wd} (g : Good w) (x : In) : Good (feed1 w x) := by
  unfold feed1
  split
  · rename_i hk
    obtain ⟨_, hm⟩ := find_k hk
    have hs := dev_snd (q6c (q5i g.fit) hm) hk
    have := dev_good g hm hk (((q3b w x.dev).1.inn ++ x.words).take 64) (q3b w x.dev).1.out (by rw [List.length_take]; omega) hs.2
    exact this
  · exact g
theorem q9m {w : Wd} (g : Good w) : ∀ l, Good (q6n w l) := by
  intro l
  induction l generalizing w with
  | nil => exact g
  | cons x l ih => exact ih (feed1_good g x)
theorem feed_step {w : Wd} {l : List In} {n : Nat} {x : In} (hx : l[n]? = some x) : q6n w (l.take (n + 1)) = feed1 (q6n w (l.take n)) x := by
  unfold q6n
  rw [List.take_add_one, hx]
  simp
theorem room_take (a b : List Int) (ha : a.length ≤ 64) : a ++ b.take (min b.length (64 - a.length)) = (a ++ b).take 64 := by
  rw [List.take_append]
  congr 1
  · rw [List.take_of_length_le ha]
  · rcases Nat.le_total b.length (64 - a.length) with h | h
    · rw [Nat.min_eq_left h, List.take_of_length_le (Nat.le_refl _), List.take_of_length_le h]
    · rw [Nat.min_eq_right h]
attribute [local irreducible] q0z dr q0i Ex.then Ex.inBlock retQ q1r q3e q3c Pure CSat evOp q2n rdOf upd hset strip sp0 cut envL q3f q4c Keep BdL evBs q3m q4a
theorem kdev_feed (w : Wd) (l : List In) (g : Good w) (hl : l.length ≤ 10) (hb : ∀ x ∈ l, x.words.length ≤ 100) : Pure Tryz.prog 25 [.agg (Wd.enc w), .sl (l.map In.enc)] (.agg (Wd.enc (q6n w l))) := by
  refine q2z (by kernel_rfl) (by simp only [go_sem, *]) (by simp only [go_sem, *]) Tryz.func25 Tryz.results25 rfl (by simp [Tryz.ntmps25]) (by kernel_rfl) ?_
  repeat' (first | (show q0z ..; first | refine q0d ?_ | refine q0p rfl ?_ | refine q1b rfl rfl ?_) | (show q1f ..; first | refine q0n rfl rfl ?_ | refine q0g rfl ?_) | (show goOn ..; first | refine q0s ?_ | refine q0u ?_ | refine q0v ?_) | (show q1i ..; refine q0j ?_) | (show wGo ..; first | refine q1w ?_ | refine q2c ?_ | refine q1y ?_ | refine q2a ?_ | refine gw_u ?_ | refine q1x (fun _ => ?_) (fun _ => ?_) | refine q2b (fun _ => ?_) (fun _ => ?_) | refine q1z (fun _ => ?_) (fun _ => ?_) | refine q2d (fun _ => ?_) (fun _ => ?_)) | (show dr ..; first | refine q1m ?_ | refine dr_n rfl ?_ | refine q3a rfl rfl ?_) | (show drGo ..; first | refine q2j rfl ?_ | refine q1j rfl ?_) | (show drOn ..; first | refine q1n ?_ | refine q1q ?_ | refine q1p ?_) | (show q1o ..; refine q1c ?_) | (refine And.intro (by kernel_rfl : q1r _ = true) ?_) | (show q0i ..; first | refine q0q ?_ | refine q0c ?_ | refine q1h (by kernel_rfl) ?_ | refine q0r ?_ | refine q0f ?_ | refine q0l ?_ | refine q0x ?_ | refine q0t ?_) | (show q1d ..; first | refine cd_t ?_ | refine cd_f ?_ | refine cd_n (fun _ => ?_) (fun _ => ?_) | refine cd_b (fun _ => ?_) (fun _ => ?_)) | refine q0a ?_ | refine q0m ?_ | refine q0k ?_ | refine q0w ?_ | refine q0h ?_ | refine q0y ?_ | refine bl_pass rfl ?_ | refine q1g ?_ | refine q1e ?_ | (show retQ ..; first | refine q0o ?_ | refine q0b ?_) | refine q0e ?_)
  refine q3n (S := Nat) (fun n => l.length - n) (fun n => n ≤ l.length) (fun n => [(2, .ptr 0 0), (4, .ptr 1 0), (10, .sl (l.map In.enc)), (11, .int .i64 l.length), (12, .int .i64 n)]) (fun n => [(0, .box (Wd.enc (q6n w (l.take n)))), (1, .box (Wd.enc Wd.zero))]) (fun _ => 2) 0 (Nat.zero_le _) (by (refine q2o ?_ ?_ <;> repeat' (first | exact q1v | exact q2f | refine q1k (by (try simp only [go_sem, *]); try rfl) (by simp only [go_sem, *]) ?_ | refine q2g (by (try simp only [go_sem, *]); try rfl) (by omega) (by simp only [go_sem, *]) ?_ | refine q2e (by (try simp only [go_sem, *]); try rfl) (by omega) (by simp only [go_sem, *]) ?_))) ?_
  intro n hn
  rcases Nat.lt_or_ge n l.length with hlt | hge
  · obtain ⟨x, hx⟩ := q3l hlt
    have h0 := q3r hlt
    have h4 := q3h n (by omega)
    have hw := hb x (List.mem_of_getElem? hx)
    have hG := q9m g (l.take n)
    have hst := feed_step (w := w) hx
    generalize q6n w (l.take n) = W at hG hst ⊢
    have hf := find_p hG.few hG.fit x.dev
    unfold feed1 at hst
    have hmem := fun h => find_k (w := W) (id := x.dev) h
    have hput := fun p => put_c W p (q5c (q5i hG.fit)).1 (by have := hG.few.n; omega)
    have hsnd := fun h1 (h2 : (q3b W x.dev).1 ∈ W.objects) => dev_snd (q6c (q5i hG.fit) h2) h1
    generalize q3b W x.dev = F at hf hst hmem hput hsnd
    obtain ⟨o, ok⟩ := F
    simp only at hf hst hmem hsnd
    cases hk : (o.kind == 6) with
    | false =>
      have hk' : (o.kind != 6) = true := by simp [bne, hk]
      rw [hk] at hst
      simp only [Bool.false_eq_true, if_false] at hst
      clear hmem hsnd hput hb hG
      cases ok with
      | false =>
        repeat' (first | (show q0z ..; first | refine q0d ?_ | refine q0p rfl ?_ | refine q1b rfl rfl ?_) | (show q1f ..; first | refine q0n rfl rfl ?_ | refine q0g rfl ?_) | (show goOn ..; first | refine q0s ?_ | refine q0u ?_ | refine q0v ?_) | (show q1i ..; refine q0j ?_) | (show q1s ..; (refine q1a (r := ?_) ?_ ?_; rotate_left 1; (focus exact hf))) | (show wGo ..; first | refine q1w ?_ | refine q2c ?_ | refine q1y ?_ | refine q2a ?_ | refine gw_u ?_ | refine q1x (fun _ => ?_) (fun _ => ?_) | refine q2b (fun _ => ?_) (fun _ => ?_) | refine q1z (fun _ => ?_) (fun _ => ?_) | refine q2d (fun _ => ?_) (fun _ => ?_)) | (show dr ..; first | refine q1m ?_ | refine dr_n rfl ?_ | refine q3a rfl rfl ?_) | (show drGo ..; first | refine q2j rfl ?_ | refine q1j rfl ?_) | (show drOn ..; first | refine q1n ?_ | refine q1q ?_ | refine q1p ?_) | (show q1o ..; refine q1c ?_) | (show q2l ..; (refine q1l (r := ?_) ?_ ?_; rotate_left 1; (focus exact hf))) | (refine And.intro (by kernel_rfl : q1r _ = true) ?_) | (show q0i ..; first | refine q0q ?_ | refine q0c ?_ | refine q1h (by kernel_rfl) ?_ | refine q0r ?_ | refine q0f ?_ | refine q0l ?_ | refine q0x ?_ | refine q0t ?_) | (show q1d ..; first | refine cd_t ?_ | refine cd_f ?_ | refine cd_n (fun _ => ?_) (fun _ => ?_) | refine cd_b (fun _ => ?_) (fun _ => ?_)) | refine q0a ?_ | refine q0m ?_ | refine q0k ?_ | refine q0w ?_ | refine q0h ?_ | refine q0y ?_ | refine bl_pass rfl ?_ | refine q1g ?_ | refine q1e ?_ | (show retQ ..; first | refine q0o ?_ | refine q0b ?_) | refine q0e ?_)
        all_goals (refine again (n + 1) hlt (show l.length - (n + 1) < l.length - n by omega) (by rw [hst]; (refine q2o ?_ ?_ <;> repeat' (first | exact q1v | exact q2f | refine q1k (by (try simp only [go_sem, *]); try rfl) (by simp only [go_sem, *]) ?_ | refine q2g (by (try simp only [go_sem, *]); try rfl) (by omega) (by simp only [go_sem, *]) ?_ | refine q2e (by (try simp only [go_sem, *]); try rfl) (by omega) (by simp only [go_sem, *]) ?_))))
      | true =>
        repeat' (first | (show q0z ..; first | refine q0d ?_ | refine q0p rfl ?_ | refine q1b rfl rfl ?_) | (show q1f ..; first | refine q0n rfl rfl ?_ | refine q0g rfl ?_) | (show goOn ..; first | refine q0s ?_ | refine q0u ?_ | refine q0v ?_) | (show q1i ..; refine q0j ?_) | (show q1s ..; (refine q1a (r := ?_) ?_ ?_; rotate_left 1; (focus exact hf))) | (show wGo ..; first | refine q1w ?_ | refine q2c ?_ | refine q1y ?_ | refine q2a ?_ | refine gw_u ?_ | refine q1x (fun _ => ?_) (fun _ => ?_) | refine q2b (fun _ => ?_) (fun _ => ?_) | refine q1z (fun _ => ?_) (fun _ => ?_) | refine q2d (fun _ => ?_) (fun _ => ?_)) | (show dr ..; first | refine q1m ?_ | refine dr_n rfl ?_ | refine q3a rfl rfl ?_) | (show drGo ..; first | refine q2j rfl ?_ | refine q1j rfl ?_) | (show drOn ..; first | refine q1n ?_ | refine q1q ?_ | refine q1p ?_) | (show q1o ..; refine q1c ?_) | (show q2l ..; (refine q1l (r := ?_) ?_ ?_; rotate_left 1; (focus exact hf))) | (refine And.intro (by kernel_rfl : q1r _ = true) ?_) | (show q0i ..; first | refine q0q ?_ | refine q0c ?_ | refine q1h (by kernel_rfl) ?_ | refine q0r ?_ | refine q0f ?_ | refine q0l ?_ | refine q0x ?_ | refine q0t ?_) | (show q1d ..; first | refine cd_t ?_ | refine cd_f ?_ | refine cd_n (fun _ => ?_) (fun _ => ?_) | refine cd_b (fun _ => ?_) (fun _ => ?_)) | refine q0a ?_ | refine q0m ?_ | refine q0k ?_ | refine q0w ?_ | refine q0h ?_ | refine q0y ?_ | refine bl_pass rfl ?_ | refine q1g ?_ | refine q1e ?_ | (show retQ ..; first | refine q0o ?_ | refine q0b ?_) | refine q0e ?_)
        all_goals (refine again (n + 1) hlt (show l.length - (n + 1) < l.length - n by omega) (by rw [hst]; (refine q2o ?_ ?_ <;> repeat' (first | exact q1v | exact q2f | refine q1k (by (try simp only [go_sem, *]); try rfl) (by simp only [go_sem, *]) ?_ | refine q2g (by (try simp only [go_sem, *]); try rfl) (by omega) (by simp only [go_sem, *]) ?_ | refine q2e (by (try simp only [go_sem, *]); try rfl) (by omega) (by simp only [go_sem, *]) ?_))))
    | true =>
      have hk' : (o.kind != 6) = false := by simp [bne, hk]
      rw [hk] at hst
      simp only [if_true] at hst
      obtain ⟨rfl, hm⟩ := hmem hk
      obtain ⟨hi, hu⟩ := hsnd hk hm
      have hrt := room_take o.inn x.words hi
      have hp := hput (fedO o x.words)
      unfold fedO at hp hst
      rw [← hrt] at hp hst
      have e1 : IntKind.i64.wrap (64 - (o.inn.length : Int)) = ((64 - o.inn.length : Nat) : Int) := by rw [IntKind.wrap_i64]; omega
      have e2 : (if ((64 - o.inn.length : Nat) : Int) < (x.words.length : Int) then ((64 - o.inn.length : Nat) : Int) else (x.words.length : Int)) = ((min x.words.length (64 - o.inn.length) : Nat) : Int) := by split <;> omega
      obtain ⟨r, hr⟩ : ∃ r, r = min x.words.length (64 - o.inn.length) := ⟨_, rfl⟩
      rw [← hr] at hp hst e2
      have hrl : r ≤ x.words.length := by omega
      have e3 : (0 ≤ (r : Int)) = True := eq_true (by omega)
      have e4 : ((r : Int) ≤ (x.words.length : Int)) = True := eq_true (by omega)
      have hc := concat_p o.inn (x.words.take r) (by omega) (by rw [List.length_take]; omega)
      rw [List.map_take] at hc
      clear hmem hsnd hput hb hG hrt hr
      repeat' (first | (show q0z ..; first | refine q0d ?_ | refine q0p rfl ?_ | refine q1b rfl rfl ?_) | (show q1f ..; first | refine q0n rfl rfl ?_ | refine q0g rfl ?_) | (show goOn ..; first | refine q0s ?_ | refine q0u ?_ | refine q0v ?_) | (show q1i ..; refine q0j ?_) | (show q1s ..; (refine q1a (r := ?_) ?_ ?_; rotate_left 1; (focus first | exact hf | exact hc | exact hp))) | (show wGo ..; first | refine q1w ?_ | refine q2c ?_ | refine q1y ?_ | refine q2a ?_ | refine gw_u ?_ | refine q1x (fun _ => ?_) (fun _ => ?_) | refine q2b (fun _ => ?_) (fun _ => ?_) | refine q1z (fun _ => ?_) (fun _ => ?_) | refine q2d (fun _ => ?_) (fun _ => ?_)) | (show dr ..; first | refine q1m ?_ | refine dr_n rfl ?_ | refine q3a rfl rfl ?_) | (show drGo ..; first | refine q2j rfl ?_ | refine q1j rfl ?_) | (show drOn ..; first | refine q1n ?_ | refine q1q ?_ | refine q1p ?_) | (show q1o ..; refine q1c ?_) | (show q2l ..; (refine q1l (r := ?_) ?_ ?_; rotate_left 1; (focus first | exact hf | exact hc | exact hp))) | (refine And.intro (by kernel_rfl : q3e _ _ _ = true) ?_) | (show q0i ..; first | refine q0q ?_ | refine q0c ?_ | refine q9d (by kernel_rfl) ?_ | refine q0r ?_ | refine q0f ?_ | refine q0l ?_ | refine q0x ?_ | refine q0t ?_) | (show q1d ..; first | refine cd_t ?_ | refine cd_f ?_ | refine cd_n (fun _ => ?_) (fun _ => ?_) | refine cd_b (fun _ => ?_) (fun _ => ?_)) | refine q0a ?_ | refine q0m ?_ | refine q0k ?_ | refine q0w ?_ | refine q0h ?_ | refine q0y ?_ | refine bl_pass rfl ?_ | refine q1g ?_ | refine q1e ?_ | (show retQ ..; first | refine q0o ?_ | refine q0b ?_) | refine q0e ?_)
      all_goals (refine again (n + 1) hlt (show l.length - (n + 1) < l.length - n by omega) (by rw [hst]; (refine q2o ?_ ?_ <;> repeat' (first | exact q1v | exact q2f | refine q1k (by (try simp only [go_sem, *]); try rfl) (by simp only [go_sem, *]) ?_ | refine q2g (by (try simp only [go_sem, *]); try rfl) (by omega) (by simp only [go_sem, *]) ?_ | refine q2e (by (try simp only [go_sem, *]); try rfl) (by omega) (by simp only [go_sem, *]) ?_))))
  · have h0 := q3d hge
    have hend : q6n w (l.take n) = q6n w l := by rw [List.take_of_length_le hge]
    rw [hend]
    repeat' (first | (show q0z ..; first | refine q0d ?_ | refine q0p rfl ?_ | refine q1b rfl rfl ?_) | (show q1f ..; first | refine q0n rfl rfl ?_ | refine q0g rfl ?_) | (show goOn ..; first | refine q0s ?_ | refine q0u ?_ | refine q0v ?_) | (show q1i ..; refine q0j ?_) | (show wGo ..; first | refine q1w ?_ | refine q2c ?_ | refine q1y ?_ | refine q2a ?_ | refine gw_u ?_ | refine q1x (fun _ => ?_) (fun _ => ?_) | refine q2b (fun _ => ?_) (fun _ => ?_) | refine q1z (fun _ => ?_) (fun _ => ?_) | refine q2d (fun _ => ?_) (fun _ => ?_)) | (show dr ..; first | refine q1m ?_ | refine dr_n rfl ?_ | refine q3a rfl rfl ?_) | (show drGo ..; first | refine q2j rfl ?_ | refine q1j rfl ?_) | (show drOn ..; first | refine q1n ?_ | refine q1q ?_ | refine q1p ?_) | (show q1o ..; refine q1c ?_) | (refine And.intro (by kernel_rfl : q1r _ = true) ?_) | (show q0i ..; first | refine q0q ?_ | refine q0c ?_ | refine q1h (by kernel_rfl) ?_ | refine q0r ?_ | refine q0f ?_ | refine q0l ?_ | refine q0x ?_ | refine q0t ?_) | (show q1d ..; first | refine cd_t ?_ | refine cd_f ?_ | refine cd_n (fun _ => ?_) (fun _ => ?_) | refine cd_b (fun _ => ?_) (fun _ => ?_)) | refine q0a ?_ | refine q0m ?_ | refine q0k ?_ | refine q0w ?_ | refine q0h ?_ | refine q0y ?_ | refine bl_pass rfl ?_ | refine q1g ?_ | refine q1e ?_ | (show retQ ..; first | refine q0o ?_ | refine q0b ?_) | refine q0e ?_)
    all_goals rfl
end Go.Proofs.YteibeoipnjhicaaGreat.kdev
end

section
namespace Go.Proofs.YteibeoipnjhicaaGreat.kdev
open Go Go.RowKit Go.Proofs.YteibeoipnjhicaaGreat
set_option linter.unusedVariables false
set_option linter.unusedSimpArgs false
set_option maxHeartbeats 16000000
set_option maxRecDepth 100000
theorem fed_end {a b acc : List Int} {k : Nat} (ha : a.length ≤ 64) (hk : k ≤ b.length) (hs : a ++ b.take k = acc) (hl : acc.length ≤ 64) (h : k = b.length ∨ ¬ acc.length < 64) : (a ++ b).take 64 = acc := by
  rcases h with h | h
  · subst h
    rw [List.take_of_length_le (Nat.le_refl _)] at hs
    rw [hs, List.take_of_length_le hl]
  · have e : acc.length = 64 := by omega
    have e2 : a ++ b = acc ++ b.drop k := by rw [← hs, List.append_assoc, List.take_append_drop]
    rw [e2, List.take_append_of_le_length (by omega), List.take_of_length_le (by omega)]
theorem fed_next {a b acc : List Int} {k : Nat} {v : Int} (hv : b[k]? = some v) (hs : a ++ b.take k = acc) : a ++ b.take (k + 1) = acc ++ [v] := by
  rw [List.take_add_one, hv, ← List.append_assoc, hs]; rfl
attribute [local irreducible] q0z dr q0i Ex.then Ex.inBlock retQ q1r q3e q3c Pure CSat evOp q2n rdOf upd hset strip sp0 cut envL q3f q4c Keep BdL evBs q3m q4a
theorem r24_feed (w : Wd) (l : List In) (g : Good w) (hl : l.length ≤ 10) (hb : ∀ x ∈ l, x.words.length ≤ 100) : Pure Tryz.prog 28 [.agg (Wd.enc w), .sl (l.map In.enc)] (.agg (Wd.enc (q6n w l))) := by
  refine q2z (by kernel_rfl) (by simp only [go_sem, *]) (by simp only [go_sem, *]) Tryz.func28 Tryz.results28 rfl (by simp [Tryz.ntmps28]) (by kernel_rfl) ?_
  repeat' (first | (show q0z ..; first | refine q0d ?_ | refine q0p rfl ?_ | refine q1b rfl rfl ?_) | (show q1f ..; first | refine q0n rfl rfl ?_ | refine q0g rfl ?_) | (show goOn ..; first | refine q0s ?_ | refine q0u ?_ | refine q0v ?_ | refine q1u ?_ | refine q1t ?_) | (show q1i ..; refine q0j ?_) | (show wGo ..; first | refine q1w ?_ | refine q2c ?_ | refine q1y ?_ | refine q2a ?_ | refine gw_u ?_ | refine q1x (fun _ => ?_) (fun _ => ?_) | refine q2b (fun _ => ?_) (fun _ => ?_) | refine q1z (fun _ => ?_) (fun _ => ?_) | refine q2d (fun _ => ?_) (fun _ => ?_)) | (show dr ..; first | refine q1m ?_ | refine dr_n rfl ?_ | refine q3a rfl rfl ?_) | (show drGo ..; first | refine q2j rfl ?_ | refine q1j rfl ?_) | (show drOn ..; first | refine q1n ?_ | refine q1q ?_ | refine q1p ?_ | refine q2r ?_ | refine q2q ?_) | (show q1o ..; refine q1c ?_) | (refine And.intro (by kernel_rfl : q1r _ = true) ?_) | (show q0i ..; first | refine q0q ?_ | refine q0c ?_ | refine q1h (by kernel_rfl) ?_ | refine q0r ?_ | refine q0f ?_ | refine q0l ?_ | refine q0x ?_ | refine q0t ?_) | (show q1d ..; first | refine cd_t ?_ | refine cd_f ?_ | refine cd_n (fun _ => ?_) (fun _ => ?_) | refine cd_b (fun _ => ?_) (fun _ => ?_)) | refine q0a ?_ | refine q0m ?_ | refine q0k ?_ | refine q0w ?_ | refine q0h ?_ | refine q0y ?_ | refine bl_pass rfl ?_ | refine q1g ?_ | refine q1e ?_ | (show retQ ..; first | refine q0o ?_ | refine q0b ?_) | refine q0e ?_)
  refine q3n (S := Nat) (fun n => l.length - n) (fun n => n ≤ l.length) (fun n => [(1, .sl (l.map In.enc)), (2, .ptr 0 0), (4, .ptr 1 0), (5, .int .i64 n)]) (fun n => [(0, .box (Wd.enc (q6n w (l.take n)))), (1, .box (Wd.enc Wd.zero))]) (fun _ => 2) 0 (Nat.zero_le _) (by (refine q2o ?_ ?_ <;> repeat' (first | exact q1v | exact q2f | refine q1k (by (try simp only [go_sem, *]); try rfl) (by simp only [go_sem, *]) ?_ | refine q2g (by (try simp only [go_sem, *]); try rfl) (by omega) (by simp only [go_sem, *]) ?_ | refine q2e (by (try simp only [go_sem, *]); try rfl) (by omega) (by simp only [go_sem, *]) ?_))) ?_
  intro n hn
  rcases Nat.lt_or_ge n l.length with hlt | hge
  · obtain ⟨x, hx⟩ := q3l hlt
    have h0 := q3r hlt
    have h4 := q3h n (by omega)
    have hw := hb x (List.mem_of_getElem? hx)
    have hG := q9m g (l.take n)
    have hst := feed_step (w := w) hx
    generalize q6n w (l.take n) = W at hG hst ⊢
    have hf := q5w W x.dev (by have := hG.few.n; omega)
    unfold feed1 at hst
    have hmem := fun h => find_k (w := W) (id := x.dev) h
    have hput := fun p => putR_c W p (q5c (q5i hG.fit)).1 (by have := hG.few.n; omega)
    have hsnd := fun h1 (h2 : (q3b W x.dev).1 ∈ W.objects) => dev_snd (q6c (q5i hG.fit) h2) h1
    generalize q3b W x.dev = F at hf hst hmem hput hsnd
    obtain ⟨o, ok⟩ := F
    simp only at hf hst hmem hsnd
    cases hk : (o.kind == 6) with
    | false =>
      have hk' : (o.kind != 6) = true := by simp [bne, hk]
      rw [hk] at hst
      simp only [Bool.false_eq_true, if_false] at hst
      clear hmem hsnd hput hb hG
      repeat' (first | (show q0z ..; first | refine q0d ?_ | refine q0p rfl ?_ | refine q1b rfl rfl ?_) | (show q1f ..; first | refine q0n rfl rfl ?_ | refine q0g rfl ?_) | (show goOn ..; first | refine q0s ?_ | refine q0u ?_ | refine q0v ?_ | refine q1u ?_ | refine q1t ?_) | (show q1i ..; refine q0j ?_) | (show q1s ..; (refine q1a (r := ?_) ?_ ?_; rotate_left 1; (focus exact hf))) | (show wGo ..; first | refine q1w ?_ | refine q2c ?_ | refine q1y ?_ | refine q2a ?_ | refine gw_u ?_ | refine q1x (fun _ => ?_) (fun _ => ?_) | refine q2b (fun _ => ?_) (fun _ => ?_) | refine q1z (fun _ => ?_) (fun _ => ?_) | refine q2d (fun _ => ?_) (fun _ => ?_)) | (show dr ..; first | refine q1m ?_ | refine dr_n rfl ?_ | refine q3a rfl rfl ?_) | (show drGo ..; first | refine q2j rfl ?_ | refine q1j rfl ?_) | (show drOn ..; first | refine q1n ?_ | refine q1q ?_ | refine q1p ?_ | refine q2r ?_ | refine q2q ?_) | (show q1o ..; refine q1c ?_) | (show q2l ..; (refine q1l (r := ?_) ?_ ?_; rotate_left 1; (focus exact hf))) | (refine And.intro (by kernel_rfl : q1r _ = true) ?_) | (show q0i ..; first | refine q0q ?_ | refine q0c ?_ | refine q1h (by kernel_rfl) ?_ | refine q0r ?_ | refine q0f ?_ | refine q0l ?_ | refine q0x ?_ | refine q0t ?_) | (show q1d ..; first | refine cd_t ?_ | refine cd_f ?_ | refine cd_n (fun _ => ?_) (fun _ => ?_) | refine cd_b (fun _ => ?_) (fun _ => ?_)) | refine q0a ?_ | refine q0m ?_ | refine q0k ?_ | refine q0w ?_ | refine q0h ?_ | refine q0y ?_ | refine bl_pass rfl ?_ | refine q1g ?_ | refine q1e ?_ | (show retQ ..; first | refine q0o ?_ | refine q0b ?_) | refine q0e ?_)
      all_goals (refine again (n + 1) hlt (show l.length - (n + 1) < l.length - n by omega) (by rw [hst]; (refine q2o ?_ ?_ <;> repeat' (first | exact q1v | exact q2f | refine q1k (by (try simp only [go_sem, *]); try rfl) (by simp only [go_sem, *]) ?_ | refine q2g (by (try simp only [go_sem, *]); try rfl) (by omega) (by simp only [go_sem, *]) ?_ | refine q2e (by (try simp only [go_sem, *]); try rfl) (by omega) (by simp only [go_sem, *]) ?_))))
    | true =>
      have hk' : (o.kind != 6) = false := by simp [bne, hk]
      rw [hk] at hst
      simp only [if_true] at hst
      obtain ⟨rfl, hm⟩ := hmem hk
      obtain ⟨hi, hu⟩ := hsnd hk hm
      have hp := hput (fedO o x.words)
      unfold fedO at hp hst
      obtain ⟨id, kind, label, quota, fixed, links, data, maps, thread, gate, inn, out⟩ := o
      simp only at hk hk' hi hu hp hst hf
      clear hmem hsnd hput hb hG hm
      rcases q4f inn with hn0 | hn0
      · subst hn0
        repeat' (first | (show q0z ..; first | refine q0d ?_ | refine q0p rfl ?_ | refine q1b rfl rfl ?_) | (show q1f ..; first | refine q0n rfl rfl ?_ | refine q0g rfl ?_) | (show goOn ..; first | refine q0s ?_ | refine q0u ?_ | refine q0v ?_ | refine q1u ?_ | refine q1t ?_) | (show q1i ..; refine q0j ?_) | (show q1s ..; (refine q1a (r := ?_) ?_ ?_; rotate_left 1; (focus exact hf))) | (show wGo ..; first | refine q1w ?_ | refine q2c ?_ | refine q1y ?_ | refine q2a ?_ | refine gw_u ?_ | refine q1x (fun _ => ?_) (fun _ => ?_) | refine q2b (fun _ => ?_) (fun _ => ?_) | refine q1z (fun _ => ?_) (fun _ => ?_) | refine q2d (fun _ => ?_) (fun _ => ?_)) | (show dr ..; first | refine q1m ?_ | refine dr_n rfl ?_ | refine q3a rfl rfl ?_) | (show drGo ..; first | refine q2j rfl ?_ | refine q1j rfl ?_) | (show drOn ..; first | refine q1n ?_ | refine q1q ?_ | refine q1p ?_ | refine q2r ?_ | refine q2q ?_) | (show q1o ..; refine q1c ?_) | (show q2l ..; (refine q1l (r := ?_) ?_ ?_; rotate_left 1; (focus exact hf))) | (refine And.intro (by kernel_rfl : q1r _ = true) ?_) | (show q0i ..; first | refine q0q ?_ | refine q0c ?_ | refine q1h (by kernel_rfl) ?_ | refine q0r ?_ | refine q0f ?_ | refine q0l ?_ | refine q0x ?_ | refine q0t ?_) | (show q1d ..; first | refine cd_t ?_ | refine cd_f ?_ | refine cd_n (fun _ => ?_) (fun _ => ?_) | refine cd_b (fun _ => ?_) (fun _ => ?_)) | refine q0a ?_ | refine q0m ?_ | refine q0k ?_ | refine q0w ?_ | refine q0h ?_ | refine q0y ?_ | refine bl_pass rfl ?_ | refine q1g ?_ | refine q1e ?_ | (show retQ ..; first | refine q0o ?_ | refine q0b ?_) | refine q0e ?_)
        refine q3n (S := Nat × List Int) (fun s => x.words.length - s.1) (fun s => s.1 ≤ x.words.length ∧ ([] : List Int) ++ x.words.take s.1 = s.2 ∧ s.2.length ≤ 64) (fun s => [(1, .sl (l.map In.enc)), (2, .ptr 0 0), (4, .ptr 1 0), (5, .int .i64 n), (6, .ptr 2 0), (8, accV 3 s.2), (9, .int .i64 s.1)]) (fun s => [(0, .box (Wd.enc W)), (1, .box (Wd.enc Wd.zero)), (2, .box (Ob.enc ⟨id, kind, label, quota, fixed, links, data, maps, thread, gate, ([] : List Int), out⟩))] ++ accG 3 22 1 u64 s.2) (fun s => accM 3 3 s.2) (0, ([] : List Int)) ⟨Nat.zero_le _, by simp, hi⟩ (by simp only [q2w, q2y, q2x, List.append_nil, List.cons_append, List.nil_append]; (refine q2o ?_ ?_ <;> repeat' (first | exact q1v | exact q2f | refine q1k (by (try simp only [go_sem, *]); try rfl) (by simp only [go_sem, *]) ?_ | refine q2g (by (try simp only [go_sem, *]); try rfl) (by omega) (by simp only [go_sem, *]) ?_ | refine q2e (by (try simp only [go_sem, *]); try rfl) (by omega) (by simp only [go_sem, *]) ?_))) ?_
        rintro ⟨k, acc⟩ ⟨hkn, hs, hal⟩
        simp only at hkn hs hal
        have hb1 := q5k (k := acc.length) (by omega)
        have hb2 := q6e (k := acc.length) (b := 8) (by omega) (by decide)
        cases g1 : decide ((k : Int) < (x.words.length : Int)) with
        | false =>
          have hend := fed_end hi hkn hs hal (.inl (by have := of_decide_eq_false g1; omega))
          rw [hend] at hp hst
          rcases q4f acc with hnil | hne
          · subst hnil
            simp only [q2w, q2y, q2x, List.append_nil]
            repeat' (first | (show q0z ..; first | refine q0d ?_ | refine q0p rfl ?_ | refine q1b rfl rfl ?_) | (show q1f ..; first | refine q0n rfl rfl ?_ | refine q0g rfl ?_) | (show goOn ..; first | refine q0s ?_ | refine q0u ?_ | refine q0v ?_ | refine q1u ?_ | refine q1t ?_) | (show q1i ..; refine q0j ?_) | (show q1s ..; (refine q1a (r := ?_) ?_ ?_; rotate_left 1; (focus exact hp))) | (show wGo ..; first | refine q1w ?_ | refine q2c ?_ | refine q1y ?_ | refine q2a ?_ | refine gw_u ?_ | refine q1x (fun _ => ?_) (fun _ => ?_) | refine q2b (fun _ => ?_) (fun _ => ?_) | refine q1z (fun _ => ?_) (fun _ => ?_) | refine q2d (fun _ => ?_) (fun _ => ?_)) | (show dr ..; first | refine q1m ?_ | refine dr_n rfl ?_ | refine q3a rfl rfl ?_) | (show drGo ..; first | refine q2j rfl ?_ | refine q1j rfl ?_) | (show drOn ..; first | refine q1n ?_ | refine q1q ?_ | refine q1p ?_ | refine q2r ?_ | refine q2q ?_) | (show q1o ..; refine q1c ?_) | (show q2l ..; (refine q1l (r := ?_) ?_ ?_; rotate_left 1; (focus exact hp))) | (refine And.intro (by kernel_rfl : q1r _ = true) ?_) | (show q0i ..; first | refine q0q ?_ | refine q0c ?_ | refine q1h (by kernel_rfl) ?_ | refine q0r ?_ | refine q0f ?_ | refine q0l ?_ | refine q0x ?_ | refine q0t ?_) | (show q1d ..; first | refine cd_t ?_ | refine cd_f ?_ | refine cd_n (fun _ => ?_) (fun _ => ?_) | refine cd_b (fun _ => ?_) (fun _ => ?_)) | refine q0a ?_ | refine q0m ?_ | refine q0k ?_ | refine q0w ?_ | refine q0h ?_ | refine q0y ?_ | refine bl_pass rfl ?_ | refine q1g ?_ | refine q1e ?_ | (show retQ ..; first | refine q0o ?_ | refine q0b ?_) | refine q0e ?_)
            all_goals (refine again (n + 1) hlt (show l.length - (n + 1) < l.length - n by omega) (by rw [hst]; (refine q2o ?_ ?_ <;> repeat' (first | exact q1v | exact q2f | refine q1k (by (try simp only [go_sem, *]); try rfl) (by simp only [go_sem, *]) ?_ | refine q2g (by (try simp only [go_sem, *]); try rfl) (by omega) (by simp only [go_sem, *]) ?_ | refine q2e (by (try simp only [go_sem, *]); try rfl) (by omega) (by simp only [go_sem, *]) ?_))))
          · simp only [q3o hne, q3q hne, q3p hne, List.cons_append, List.nil_append]
            repeat' (first | (show q0z ..; first | refine q0d ?_ | refine q0p rfl ?_ | refine q1b rfl rfl ?_) | (show q1f ..; first | refine q0n rfl rfl ?_ | refine q0g rfl ?_) | (show goOn ..; first | refine q0s ?_ | refine q0u ?_ | refine q0v ?_ | refine q1u ?_ | refine q1t ?_) | (show q1i ..; refine q0j ?_) | (show q1s ..; (refine q1a (r := ?_) ?_ ?_; rotate_left 1; (focus exact hp))) | (show wGo ..; first | refine q1w ?_ | refine q2c ?_ | refine q1y ?_ | refine q2a ?_ | refine gw_u ?_ | refine q1x (fun _ => ?_) (fun _ => ?_) | refine q2b (fun _ => ?_) (fun _ => ?_) | refine q1z (fun _ => ?_) (fun _ => ?_) | refine q2d (fun _ => ?_) (fun _ => ?_)) | (show dr ..; first | refine q1m ?_ | refine dr_n rfl ?_ | refine q3a rfl rfl ?_) | (show drGo ..; first | refine q2j rfl ?_ | refine q1j rfl ?_) | (show drOn ..; first | refine q1n ?_ | refine q1q ?_ | refine q1p ?_ | refine q2r ?_ | refine q2q ?_) | (show q1o ..; refine q1c ?_) | (show q2l ..; (refine q1l (r := ?_) ?_ ?_; rotate_left 1; (focus exact hp))) | (refine And.intro (by kernel_rfl : q1r _ = true) ?_) | (show q0i ..; first | refine q0q ?_ | refine q0c ?_ | refine q1h (by kernel_rfl) ?_ | refine q0r ?_ | refine q0f ?_ | refine q0l ?_ | refine q0x ?_ | refine q0t ?_) | (show q1d ..; first | refine cd_t ?_ | refine cd_f ?_ | refine cd_n (fun _ => ?_) (fun _ => ?_) | refine cd_b (fun _ => ?_) (fun _ => ?_)) | refine q0a ?_ | refine q0m ?_ | refine q0k ?_ | refine q0w ?_ | refine q0h ?_ | refine q0y ?_ | refine bl_pass rfl ?_ | refine q1g ?_ | refine q1e ?_ | (show retQ ..; first | refine q0o ?_ | refine q0b ?_) | refine q0e ?_)
            all_goals (refine again (n + 1) hlt (show l.length - (n + 1) < l.length - n by omega) (by rw [hst]; (refine q2o ?_ ?_ <;> repeat' (first | exact q1v | exact q2f | refine q1k (by (try simp only [go_sem, *]); try rfl) (by simp only [go_sem, *]) ?_ | refine q2g (by (try simp only [go_sem, *]); try rfl) (by omega) (by simp only [go_sem, *]) ?_ | refine q2e (by (try simp only [go_sem, *]); try rfl) (by omega) (by simp only [go_sem, *]) ?_))))
        | true =>
          have hkl : k < x.words.length := by have := of_decide_eq_true g1; omega
          obtain ⟨v, hv⟩ := q3l hkl
          have hnx := fed_next hv hs
          have h5 := q3h k (by omega)
          rcases q4f acc with hnil | hne
          · subst hnil
            simp only [q2w, q2y, q2x, List.append_nil]
            repeat' (first | (show q0z ..; first | refine q0d ?_ | refine q0p rfl ?_ | refine q1b rfl rfl ?_) | (show q1f ..; first | refine q0n rfl rfl ?_ | refine q0g rfl ?_) | (show goOn ..; first | refine q0s ?_ | refine q0u ?_ | refine q0v ?_ | refine q1u ?_ | refine q1t ?_) | (show q1i ..; refine q0j ?_) | (show wGo ..; first | refine q1w ?_ | refine q2c ?_ | refine q1y ?_ | refine q2a ?_ | refine gw_u ?_ | refine q1x (fun _ => ?_) (fun _ => ?_) | refine q2b (fun _ => ?_) (fun _ => ?_) | refine q1z (fun _ => ?_) (fun _ => ?_) | refine q2d (fun _ => ?_) (fun _ => ?_)) | (show dr ..; first | refine q1m ?_ | refine dr_n rfl ?_ | refine q3a rfl rfl ?_) | (show drGo ..; first | refine q2j rfl ?_ | refine q1j rfl ?_) | (show drOn ..; first | refine q1n ?_ | refine q1q ?_ | refine q1p ?_ | refine q2r ?_ | refine q2q ?_) | (show q1o ..; refine q1c ?_) | (refine And.intro (by kernel_rfl : q1r _ = true) ?_) | (show q0i ..; first | refine q0q ?_ | refine q0c ?_ | refine q1h (by kernel_rfl) ?_ | refine q0r ?_ | refine q0f ?_ | refine q0l ?_ | refine q0x ?_ | refine q0t ?_) | (show q1d ..; first | refine cd_t ?_ | refine cd_f ?_ | refine cd_n (fun _ => ?_) (fun _ => ?_) | refine cd_b (fun _ => ?_) (fun _ => ?_)) | refine q0a ?_ | refine q0m ?_ | refine q0k ?_ | refine q0w ?_ | refine q0h ?_ | refine q0y ?_ | refine bl_pass rfl ?_ | refine q1g ?_ | refine q1e ?_ | (show retQ ..; first | refine q0o ?_ | refine q0b ?_) | refine q0e ?_)
            all_goals
              refine again (k + 1, [] ++ [v]) ⟨hkl, hnx, by simp⟩ (by simp only; omega) ?_
              simp only [q3i, q3k, q3j]
              try simp only [List.cons_append, List.nil_append]
              (refine q2o ?_ ?_ <;> repeat' (first | exact q1v | exact q2f | refine q1k (by (try simp only [go_sem, *]); try rfl) (by simp only [go_sem, *]) ?_ | refine q2g (by (try simp only [go_sem, *]); try rfl) (by omega) (by simp only [go_sem, *]) ?_ | refine q2e (by (try simp only [go_sem, *]); try rfl) (by omega) (by simp only [go_sem, *]) ?_))
          · cases g2 : decide ((acc.length : Int) < 64) with
            | false =>
              have hend := fed_end hi hkn hs hal (.inr (by have := of_decide_eq_false g2; omega))
              rw [hend] at hp hst
              simp only [q3o hne, q3q hne, q3p hne, List.cons_append, List.nil_append]
              repeat' (first | (show q0z ..; first | refine q0d ?_ | refine q0p rfl ?_ | refine q1b rfl rfl ?_) | (show q1f ..; first | refine q0n rfl rfl ?_ | refine q0g rfl ?_) | (show goOn ..; first | refine q0s ?_ | refine q0u ?_ | refine q0v ?_ | refine q1u ?_ | refine q1t ?_) | (show q1i ..; refine q0j ?_) | (show q1s ..; (refine q1a (r := ?_) ?_ ?_; rotate_left 1; (focus exact hp))) | (show wGo ..; first | refine q1w ?_ | refine q2c ?_ | refine q1y ?_ | refine q2a ?_ | refine gw_u ?_ | refine q1x (fun _ => ?_) (fun _ => ?_) | refine q2b (fun _ => ?_) (fun _ => ?_) | refine q1z (fun _ => ?_) (fun _ => ?_) | refine q2d (fun _ => ?_) (fun _ => ?_)) | (show dr ..; first | refine q1m ?_ | refine dr_n rfl ?_ | refine q3a rfl rfl ?_) | (show drGo ..; first | refine q2j rfl ?_ | refine q1j rfl ?_) | (show drOn ..; first | refine q1n ?_ | refine q1q ?_ | refine q1p ?_ | refine q2r ?_ | refine q2q ?_) | (show q1o ..; refine q1c ?_) | (show q2l ..; (refine q1l (r := ?_) ?_ ?_; rotate_left 1; (focus exact hp))) | (refine And.intro (by kernel_rfl : q1r _ = true) ?_) | (show q0i ..; first | refine q0q ?_ | refine q0c ?_ | refine q1h (by kernel_rfl) ?_ | refine q0r ?_ | refine q0f ?_ | refine q0l ?_ | refine q0x ?_ | refine q0t ?_) | (show q1d ..; first | refine cd_t ?_ | refine cd_f ?_ | refine cd_n (fun _ => ?_) (fun _ => ?_) | refine cd_b (fun _ => ?_) (fun _ => ?_)) | refine q0a ?_ | refine q0m ?_ | refine q0k ?_ | refine q0w ?_ | refine q0h ?_ | refine q0y ?_ | refine bl_pass rfl ?_ | refine q1g ?_ | refine q1e ?_ | (show retQ ..; first | refine q0o ?_ | refine q0b ?_) | refine q0e ?_)
              all_goals (refine again (n + 1) hlt (show l.length - (n + 1) < l.length - n by omega) (by rw [hst]; (refine q2o ?_ ?_ <;> repeat' (first | exact q1v | exact q2f | refine q1k (by (try simp only [go_sem, *]); try rfl) (by simp only [go_sem, *]) ?_ | refine q2g (by (try simp only [go_sem, *]); try rfl) (by omega) (by simp only [go_sem, *]) ?_ | refine q2e (by (try simp only [go_sem, *]); try rfl) (by omega) (by simp only [go_sem, *]) ?_))))
            | true =>
              simp only [q3o hne, q3q hne, q3p hne, List.cons_append, List.nil_append]
              repeat' (first | (show q0z ..; first | refine q0d ?_ | refine q0p rfl ?_ | refine q1b rfl rfl ?_) | (show q1f ..; first | refine q0n rfl rfl ?_ | refine q0g rfl ?_) | (show goOn ..; first | refine q0s ?_ | refine q0u ?_ | refine q0v ?_ | refine q1u ?_ | refine q1t ?_) | (show q1i ..; refine q0j ?_) | (show wGo ..; first | refine q1w ?_ | refine q2c ?_ | refine q1y ?_ | refine q2a ?_ | refine gw_u ?_ | refine q1x (fun _ => ?_) (fun _ => ?_) | refine q2b (fun _ => ?_) (fun _ => ?_) | refine q1z (fun _ => ?_) (fun _ => ?_) | refine q2d (fun _ => ?_) (fun _ => ?_)) | (show dr ..; first | refine q1m ?_ | refine dr_n rfl ?_ | refine q3a rfl rfl ?_) | (show drGo ..; first | refine q2j rfl ?_ | refine q1j rfl ?_) | (show drOn ..; first | refine q1n ?_ | refine q1q ?_ | refine q1p ?_ | refine q2r ?_ | refine q2q ?_) | (show q1o ..; refine q1c ?_) | (refine And.intro (by kernel_rfl : q1r _ = true) ?_) | (show q0i ..; first | refine q0q ?_ | refine q0c ?_ | refine q1h (by kernel_rfl) ?_ | refine q0r ?_ | refine q0f ?_ | refine q0l ?_ | refine q0x ?_ | refine q0t ?_) | (show q1d ..; first | refine cd_t ?_ | refine cd_f ?_ | refine cd_n (fun _ => ?_) (fun _ => ?_) | refine cd_b (fun _ => ?_) (fun _ => ?_)) | refine q0a ?_ | refine q0m ?_ | refine q0k ?_ | refine q0w ?_ | refine q0h ?_ | refine q0y ?_ | refine bl_pass rfl ?_ | refine q1g ?_ | refine q1e ?_ | (show retQ ..; first | refine q0o ?_ | refine q0b ?_) | refine q0e ?_)
              all_goals
                refine again (k + 1, acc ++ [v]) ⟨hkl, hnx, by have := of_decide_eq_true g2; simp; omega⟩ (by simp only; omega) ?_
                simp only [q3i, q3k, q3j]
                try simp only [List.cons_append, List.nil_append]
                (refine q2o ?_ ?_ <;> repeat' (first | exact q1v | exact q2f | refine q1k (by (try simp only [go_sem, *]); try rfl) (by simp only [go_sem, *]) ?_ | refine q2g (by (try simp only [go_sem, *]); try rfl) (by omega) (by simp only [go_sem, *]) ?_ | refine q2e (by (try simp only [go_sem, *]); try rfl) (by omega) (by simp only [go_sem, *]) ?_))
      · have q0 : (0 < inn.length) = True := eq_true (List.length_pos_iff.2 hn0)
        have q1 : (inn.length * 8 ≤ 140737488355328) = True := eq_true (by omega)
        have q2 : (inn.length ≤ maxLen) = True := eq_true (by unfold maxLen; omega)
        repeat' (first | (show q0z ..; first | refine q0d ?_ | refine q0p rfl ?_ | refine q1b rfl rfl ?_) | (show q1f ..; first | refine q0n rfl rfl ?_ | refine q0g rfl ?_) | (show goOn ..; first | refine q0s ?_ | refine q0u ?_ | refine q0v ?_ | refine q1u ?_ | refine q1t ?_) | (show q1i ..; refine q0j ?_) | (show q1s ..; (refine q1a (r := ?_) ?_ ?_; rotate_left 1; (focus exact hf))) | (show wGo ..; first | refine q1w ?_ | refine q2c ?_ | refine q1y ?_ | refine q2a ?_ | refine gw_u ?_ | refine q1x (fun _ => ?_) (fun _ => ?_) | refine q2b (fun _ => ?_) (fun _ => ?_) | refine q1z (fun _ => ?_) (fun _ => ?_) | refine q2d (fun _ => ?_) (fun _ => ?_)) | (show dr ..; first | refine q1m ?_ | refine dr_n rfl ?_ | refine q3a rfl rfl ?_) | (show drGo ..; first | refine q2j rfl ?_ | refine q1j rfl ?_) | (show drOn ..; first | refine q1n ?_ | refine q1q ?_ | refine q1p ?_ | refine q2r ?_ | refine q2q ?_) | (show q1o ..; refine q1c ?_) | (show q2l ..; (refine q1l (r := ?_) ?_ ?_; rotate_left 1; (focus exact hf))) | (refine And.intro (by kernel_rfl : q1r _ = true) ?_) | (show q0i ..; first | refine q0q ?_ | refine q0c ?_ | refine q1h (by kernel_rfl) ?_ | refine q0r ?_ | refine q0f ?_ | refine q0l ?_ | refine q0x ?_ | refine q0t ?_) | (show q1d ..; first | refine cd_t ?_ | refine cd_f ?_ | refine cd_n (fun _ => ?_) (fun _ => ?_) | refine cd_b (fun _ => ?_) (fun _ => ?_)) | refine q0a ?_ | refine q0m ?_ | refine q0k ?_ | refine q0w ?_ | refine q0h ?_ | refine q0y ?_ | refine bl_pass rfl ?_ | refine q1g ?_ | refine q1e ?_ | (show retQ ..; first | refine q0o ?_ | refine q0b ?_) | refine q0e ?_)
        refine q3n (S := Nat × List Int) (fun s => x.words.length - s.1) (fun s => s.1 ≤ x.words.length ∧ inn ++ x.words.take s.1 = s.2 ∧ s.2.length ≤ 64) (fun s => [(1, .sl (l.map In.enc)), (2, .ptr 0 0), (4, .ptr 1 0), (5, .int .i64 n), (6, .ptr 2 0), (8, accV 3 s.2), (9, .int .i64 s.1)]) (fun s => [(0, .box (Wd.enc W)), (1, .box (Wd.enc Wd.zero)), (2, .box (Ob.enc ⟨id, kind, label, quota, fixed, links, data, maps, thread, gate, inn, out⟩))] ++ accG 3 22 1 u64 s.2) (fun s => accM 3 3 s.2) (0, inn) ⟨Nat.zero_le _, by simp, hi⟩ (by simp only [q3o hn0, q3q hn0, q3p hn0, List.append_nil, List.cons_append, List.nil_append]; (refine q2o ?_ ?_ <;> repeat' (first | exact q1v | exact q2f | refine q1k (by (try simp only [go_sem, *]); try rfl) (by simp only [go_sem, *]) ?_ | refine q2g (by (try simp only [go_sem, *]); try rfl) (by omega) (by simp only [go_sem, *]) ?_ | refine q2e (by (try simp only [go_sem, *]); try rfl) (by omega) (by simp only [go_sem, *]) ?_))) ?_
        rintro ⟨k, acc⟩ ⟨hkn, hs, hal⟩
        simp only at hkn hs hal
        have hb1 := q5k (k := acc.length) (by omega)
        have hb2 := q6e (k := acc.length) (b := 8) (by omega) (by decide)
        cases g1 : decide ((k : Int) < (x.words.length : Int)) with
        | false =>
          have hend := fed_end hi hkn hs hal (.inl (by have := of_decide_eq_false g1; omega))
          rw [hend] at hp hst
          rcases q4f acc with hnil | hne
          · subst hnil
            simp only [q2w, q2y, q2x, List.append_nil]
            repeat' (first | (show q0z ..; first | refine q0d ?_ | refine q0p rfl ?_ | refine q1b rfl rfl ?_) | (show q1f ..; first | refine q0n rfl rfl ?_ | refine q0g rfl ?_) | (show goOn ..; first | refine q0s ?_ | refine q0u ?_ | refine q0v ?_ | refine q1u ?_ | refine q1t ?_) | (show q1i ..; refine q0j ?_) | (show q1s ..; (refine q1a (r := ?_) ?_ ?_; rotate_left 1; (focus exact hp))) | (show wGo ..; first | refine q1w ?_ | refine q2c ?_ | refine q1y ?_ | refine q2a ?_ | refine gw_u ?_ | refine q1x (fun _ => ?_) (fun _ => ?_) | refine q2b (fun _ => ?_) (fun _ => ?_) | refine q1z (fun _ => ?_) (fun _ => ?_) | refine q2d (fun _ => ?_) (fun _ => ?_)) | (show dr ..; first | refine q1m ?_ | refine dr_n rfl ?_ | refine q3a rfl rfl ?_) | (show drGo ..; first | refine q2j rfl ?_ | refine q1j rfl ?_) | (show drOn ..; first | refine q1n ?_ | refine q1q ?_ | refine q1p ?_ | refine q2r ?_ | refine q2q ?_) | (show q1o ..; refine q1c ?_) | (show q2l ..; (refine q1l (r := ?_) ?_ ?_; rotate_left 1; (focus exact hp))) | (refine And.intro (by kernel_rfl : q1r _ = true) ?_) | (show q0i ..; first | refine q0q ?_ | refine q0c ?_ | refine q1h (by kernel_rfl) ?_ | refine q0r ?_ | refine q0f ?_ | refine q0l ?_ | refine q0x ?_ | refine q0t ?_) | (show q1d ..; first | refine cd_t ?_ | refine cd_f ?_ | refine cd_n (fun _ => ?_) (fun _ => ?_) | refine cd_b (fun _ => ?_) (fun _ => ?_)) | refine q0a ?_ | refine q0m ?_ | refine q0k ?_ | refine q0w ?_ | refine q0h ?_ | refine q0y ?_ | refine bl_pass rfl ?_ | refine q1g ?_ | refine q1e ?_ | (show retQ ..; first | refine q0o ?_ | refine q0b ?_) | refine q0e ?_)
            all_goals (refine again (n + 1) hlt (show l.length - (n + 1) < l.length - n by omega) (by rw [hst]; (refine q2o ?_ ?_ <;> repeat' (first | exact q1v | exact q2f | refine q1k (by (try simp only [go_sem, *]); try rfl) (by simp only [go_sem, *]) ?_ | refine q2g (by (try simp only [go_sem, *]); try rfl) (by omega) (by simp only [go_sem, *]) ?_ | refine q2e (by (try simp only [go_sem, *]); try rfl) (by omega) (by simp only [go_sem, *]) ?_))))
          · simp only [q3o hne, q3q hne, q3p hne, List.cons_append, List.nil_append]
            repeat' (first | (show q0z ..; first | refine q0d ?_ | refine q0p rfl ?_ | refine q1b rfl rfl ?_) | (show q1f ..; first | refine q0n rfl rfl ?_ | refine q0g rfl ?_) | (show goOn ..; first | refine q0s ?_ | refine q0u ?_ | refine q0v ?_ | refine q1u ?_ | refine q1t ?_) | (show q1i ..; refine q0j ?_) | (show q1s ..; (refine q1a (r := ?_) ?_ ?_; rotate_left 1; (focus exact hp))) | (show wGo ..; first | refine q1w ?_ | refine q2c ?_ | refine q1y ?_ | refine q2a ?_ | refine gw_u ?_ | refine q1x (fun _ => ?_) (fun _ => ?_) | refine q2b (fun _ => ?_) (fun _ => ?_) | refine q1z (fun _ => ?_) (fun _ => ?_) | refine q2d (fun _ => ?_) (fun _ => ?_)) | (show dr ..; first | refine q1m ?_ | refine dr_n rfl ?_ | refine q3a rfl rfl ?_) | (show drGo ..; first | refine q2j rfl ?_ | refine q1j rfl ?_) | (show drOn ..; first | refine q1n ?_ | refine q1q ?_ | refine q1p ?_ | refine q2r ?_ | refine q2q ?_) | (show q1o ..; refine q1c ?_) | (show q2l ..; (refine q1l (r := ?_) ?_ ?_; rotate_left 1; (focus exact hp))) | (refine And.intro (by kernel_rfl : q1r _ = true) ?_) | (show q0i ..; first | refine q0q ?_ | refine q0c ?_ | refine q1h (by kernel_rfl) ?_ | refine q0r ?_ | refine q0f ?_ | refine q0l ?_ | refine q0x ?_ | refine q0t ?_) | (show q1d ..; first | refine cd_t ?_ | refine cd_f ?_ | refine cd_n (fun _ => ?_) (fun _ => ?_) | refine cd_b (fun _ => ?_) (fun _ => ?_)) | refine q0a ?_ | refine q0m ?_ | refine q0k ?_ | refine q0w ?_ | refine q0h ?_ | refine q0y ?_ | refine bl_pass rfl ?_ | refine q1g ?_ | refine q1e ?_ | (show retQ ..; first | refine q0o ?_ | refine q0b ?_) | refine q0e ?_)
            all_goals (refine again (n + 1) hlt (show l.length - (n + 1) < l.length - n by omega) (by rw [hst]; (refine q2o ?_ ?_ <;> repeat' (first | exact q1v | exact q2f | refine q1k (by (try simp only [go_sem, *]); try rfl) (by simp only [go_sem, *]) ?_ | refine q2g (by (try simp only [go_sem, *]); try rfl) (by omega) (by simp only [go_sem, *]) ?_ | refine q2e (by (try simp only [go_sem, *]); try rfl) (by omega) (by simp only [go_sem, *]) ?_))))
        | true =>
          have hkl : k < x.words.length := by have := of_decide_eq_true g1; omega
          obtain ⟨v, hv⟩ := q3l hkl
          have hnx := fed_next hv hs
          have h5 := q3h k (by omega)
          rcases q4f acc with hnil | hne
          · subst hnil
            simp only [q2w, q2y, q2x, List.append_nil]
            repeat' (first | (show q0z ..; first | refine q0d ?_ | refine q0p rfl ?_ | refine q1b rfl rfl ?_) | (show q1f ..; first | refine q0n rfl rfl ?_ | refine q0g rfl ?_) | (show goOn ..; first | refine q0s ?_ | refine q0u ?_ | refine q0v ?_ | refine q1u ?_ | refine q1t ?_) | (show q1i ..; refine q0j ?_) | (show wGo ..; first | refine q1w ?_ | refine q2c ?_ | refine q1y ?_ | refine q2a ?_ | refine gw_u ?_ | refine q1x (fun _ => ?_) (fun _ => ?_) | refine q2b (fun _ => ?_) (fun _ => ?_) | refine q1z (fun _ => ?_) (fun _ => ?_) | refine q2d (fun _ => ?_) (fun _ => ?_)) | (show dr ..; first | refine q1m ?_ | refine dr_n rfl ?_ | refine q3a rfl rfl ?_) | (show drGo ..; first | refine q2j rfl ?_ | refine q1j rfl ?_) | (show drOn ..; first | refine q1n ?_ | refine q1q ?_ | refine q1p ?_ | refine q2r ?_ | refine q2q ?_) | (show q1o ..; refine q1c ?_) | (refine And.intro (by kernel_rfl : q1r _ = true) ?_) | (show q0i ..; first | refine q0q ?_ | refine q0c ?_ | refine q1h (by kernel_rfl) ?_ | refine q0r ?_ | refine q0f ?_ | refine q0l ?_ | refine q0x ?_ | refine q0t ?_) | (show q1d ..; first | refine cd_t ?_ | refine cd_f ?_ | refine cd_n (fun _ => ?_) (fun _ => ?_) | refine cd_b (fun _ => ?_) (fun _ => ?_)) | refine q0a ?_ | refine q0m ?_ | refine q0k ?_ | refine q0w ?_ | refine q0h ?_ | refine q0y ?_ | refine bl_pass rfl ?_ | refine q1g ?_ | refine q1e ?_ | (show retQ ..; first | refine q0o ?_ | refine q0b ?_) | refine q0e ?_)
            all_goals
              refine again (k + 1, [] ++ [v]) ⟨hkl, hnx, by simp⟩ (by simp only; omega) ?_
              simp only [q3i, q3k, q3j]
              try simp only [List.cons_append, List.nil_append]
              (refine q2o ?_ ?_ <;> repeat' (first | exact q1v | exact q2f | refine q1k (by (try simp only [go_sem, *]); try rfl) (by simp only [go_sem, *]) ?_ | refine q2g (by (try simp only [go_sem, *]); try rfl) (by omega) (by simp only [go_sem, *]) ?_ | refine q2e (by (try simp only [go_sem, *]); try rfl) (by omega) (by simp only [go_sem, *]) ?_))
          · cases g2 : decide ((acc.length : Int) < 64) with
            | false =>
              have hend := fed_end hi hkn hs hal (.inr (by have := of_decide_eq_false g2; omega))
              rw [hend] at hp hst
              simp only [q3o hne, q3q hne, q3p hne, List.cons_append, List.nil_append]
              repeat' (first | (show q0z ..; first | refine q0d ?_ | refine q0p rfl ?_ | refine q1b rfl rfl ?_) | (show q1f ..; first | refine q0n rfl rfl ?_ | refine q0g rfl ?_) | (show goOn ..; first | refine q0s ?_ | refine q0u ?_ | refine q0v ?_ | refine q1u ?_ | refine q1t ?_) | (show q1i ..; refine q0j ?_) | (show q1s ..; (refine q1a (r := ?_) ?_ ?_; rotate_left 1; (focus exact hp))) | (show wGo ..; first | refine q1w ?_ | refine q2c ?_ | refine q1y ?_ | refine q2a ?_ | refine gw_u ?_ | refine q1x (fun _ => ?_) (fun _ => ?_) | refine q2b (fun _ => ?_) (fun _ => ?_) | refine q1z (fun _ => ?_) (fun _ => ?_) | refine q2d (fun _ => ?_) (fun _ => ?_)) | (show dr ..; first | refine q1m ?_ | refine dr_n rfl ?_ | refine q3a rfl rfl ?_) | (show drGo ..; first | refine q2j rfl ?_ | refine q1j rfl ?_) | (show drOn ..; first | refine q1n ?_ | refine q1q ?_ | refine q1p ?_ | refine q2r ?_ | refine q2q ?_) | (show q1o ..; refine q1c ?_) | (show q2l ..; (refine q1l (r := ?_) ?_ ?_; rotate_left 1; (focus exact hp))) | (refine And.intro (by kernel_rfl : q1r _ = true) ?_) | (show q0i ..; first | refine q0q ?_ | refine q0c ?_ | refine q1h (by kernel_rfl) ?_ | refine q0r ?_ | refine q0f ?_ | refine q0l ?_ | refine q0x ?_ | refine q0t ?_) | (show q1d ..; first | refine cd_t ?_ | refine cd_f ?_ | refine cd_n (fun _ => ?_) (fun _ => ?_) | refine cd_b (fun _ => ?_) (fun _ => ?_)) | refine q0a ?_ | refine q0m ?_ | refine q0k ?_ | refine q0w ?_ | refine q0h ?_ | refine q0y ?_ | refine bl_pass rfl ?_ | refine q1g ?_ | refine q1e ?_ | (show retQ ..; first | refine q0o ?_ | refine q0b ?_) | refine q0e ?_)
              all_goals (refine again (n + 1) hlt (show l.length - (n + 1) < l.length - n by omega) (by rw [hst]; (refine q2o ?_ ?_ <;> repeat' (first | exact q1v | exact q2f | refine q1k (by (try simp only [go_sem, *]); try rfl) (by simp only [go_sem, *]) ?_ | refine q2g (by (try simp only [go_sem, *]); try rfl) (by omega) (by simp only [go_sem, *]) ?_ | refine q2e (by (try simp only [go_sem, *]); try rfl) (by omega) (by simp only [go_sem, *]) ?_))))
            | true =>
              simp only [q3o hne, q3q hne, q3p hne, List.cons_append, List.nil_append]
              repeat' (first | (show q0z ..; first | refine q0d ?_ | refine q0p rfl ?_ | refine q1b rfl rfl ?_) | (show q1f ..; first | refine q0n rfl rfl ?_ | refine q0g rfl ?_) | (show goOn ..; first | refine q0s ?_ | refine q0u ?_ | refine q0v ?_ | refine q1u ?_ | refine q1t ?_) | (show q1i ..; refine q0j ?_) | (show wGo ..; first | refine q1w ?_ | refine q2c ?_ | refine q1y ?_ | refine q2a ?_ | refine gw_u ?_ | refine q1x (fun _ => ?_) (fun _ => ?_) | refine q2b (fun _ => ?_) (fun _ => ?_) | refine q1z (fun _ => ?_) (fun _ => ?_) | refine q2d (fun _ => ?_) (fun _ => ?_)) | (show dr ..; first | refine q1m ?_ | refine dr_n rfl ?_ | refine q3a rfl rfl ?_) | (show drGo ..; first | refine q2j rfl ?_ | refine q1j rfl ?_) | (show drOn ..; first | refine q1n ?_ | refine q1q ?_ | refine q1p ?_ | refine q2r ?_ | refine q2q ?_) | (show q1o ..; refine q1c ?_) | (refine And.intro (by kernel_rfl : q1r _ = true) ?_) | (show q0i ..; first | refine q0q ?_ | refine q0c ?_ | refine q1h (by kernel_rfl) ?_ | refine q0r ?_ | refine q0f ?_ | refine q0l ?_ | refine q0x ?_ | refine q0t ?_) | (show q1d ..; first | refine cd_t ?_ | refine cd_f ?_ | refine cd_n (fun _ => ?_) (fun _ => ?_) | refine cd_b (fun _ => ?_) (fun _ => ?_)) | refine q0a ?_ | refine q0m ?_ | refine q0k ?_ | refine q0w ?_ | refine q0h ?_ | refine q0y ?_ | refine bl_pass rfl ?_ | refine q1g ?_ | refine q1e ?_ | (show retQ ..; first | refine q0o ?_ | refine q0b ?_) | refine q0e ?_)
              all_goals
                refine again (k + 1, acc ++ [v]) ⟨hkl, hnx, by have := of_decide_eq_true g2; simp; omega⟩ (by simp only; omega) ?_
                simp only [q3i, q3k, q3j]
                try simp only [List.cons_append, List.nil_append]
                (refine q2o ?_ ?_ <;> repeat' (first | exact q1v | exact q2f | refine q1k (by (try simp only [go_sem, *]); try rfl) (by simp only [go_sem, *]) ?_ | refine q2g (by (try simp only [go_sem, *]); try rfl) (by omega) (by simp only [go_sem, *]) ?_ | refine q2e (by (try simp only [go_sem, *]); try rfl) (by omega) (by simp only [go_sem, *]) ?_))
  · have h0 := q3d hge
    have hend : q6n w (l.take n) = q6n w l := by rw [List.take_of_length_le hge]
    rw [hend]
    repeat' (first | (show q0z ..; first | refine q0d ?_ | refine q0p rfl ?_ | refine q1b rfl rfl ?_) | (show q1f ..; first | refine q0n rfl rfl ?_ | refine q0g rfl ?_) | (show goOn ..; first | refine q0s ?_ | refine q0u ?_ | refine q0v ?_ | refine q1u ?_ | refine q1t ?_) | (show q1i ..; refine q0j ?_) | (show wGo ..; first | refine q1w ?_ | refine q2c ?_ | refine q1y ?_ | refine q2a ?_ | refine gw_u ?_ | refine q1x (fun _ => ?_) (fun _ => ?_) | refine q2b (fun _ => ?_) (fun _ => ?_) | refine q1z (fun _ => ?_) (fun _ => ?_) | refine q2d (fun _ => ?_) (fun _ => ?_)) | (show dr ..; first | refine q1m ?_ | refine dr_n rfl ?_ | refine q3a rfl rfl ?_) | (show drGo ..; first | refine q2j rfl ?_ | refine q1j rfl ?_) | (show drOn ..; first | refine q1n ?_ | refine q1q ?_ | refine q1p ?_ | refine q2r ?_ | refine q2q ?_) | (show q1o ..; refine q1c ?_) | (refine And.intro (by kernel_rfl : q1r _ = true) ?_) | (show q0i ..; first | refine q0q ?_ | refine q0c ?_ | refine q1h (by kernel_rfl) ?_ | refine q0r ?_ | refine q0f ?_ | refine q0l ?_ | refine q0x ?_ | refine q0t ?_) | (show q1d ..; first | refine cd_t ?_ | refine cd_f ?_ | refine cd_n (fun _ => ?_) (fun _ => ?_) | refine cd_b (fun _ => ?_) (fun _ => ?_)) | refine q0a ?_ | refine q0m ?_ | refine q0k ?_ | refine q0w ?_ | refine q0h ?_ | refine q0y ?_ | refine bl_pass rfl ?_ | refine q1g ?_ | refine q1e ?_ | (show retQ ..; first | refine q0o ?_ | refine q0b ?_) | refine q0e ?_)
    all_goals rfl
end Go.Proofs.YteibeoipnjhicaaGreat.kdev
end
