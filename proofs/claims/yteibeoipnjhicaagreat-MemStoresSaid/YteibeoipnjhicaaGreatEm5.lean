import Derived.Test.YteibeoipnjhicaaGreatEm4
namespace Go.Proofs.YteibeoipnjhicaaGreat
open Go Go.RowKit
set_option linter.unusedVariables false
set_option linter.unusedSimpArgs false
set_option maxHeartbeats 16000000
set_option maxRecDepth 100000
theorem q5f {w : Wd} (hr : RisO w.objects) (p : Ob) (id : Int) : fnd (w.ins p).objects id = if p.id = id then some p else fnd w.objects id := insR_fnd hr id
theorem may_after {w : Wd} (hf : FewW w) (hw : fitW w = true) (t : Ob) (k m : Nat) (v : Int) (h1 : q3t w t k = true) (h2 : q3t w t m = true) : q3t (w.ins (setO (q2v w t k).1.1 (q2v w t k).1.2.1 v)) t m = true := by
  obtain ⟨a, _⟩ := may_ok hf hw h1
  have hr := set_rep (q5m hw) a.mem (q2v w t k).1.2.1 v
  unfold q3t at h2 ⊢
  rw [set_walk (q5m hw) a.mem]
  simp only [hd_label (hr.hd _)]
  exact h2
theorem swap_ext {w : Wd} (hr : RisO w.objects) {p q : Ob} (h : p.id ≠ q.id) : (w.ins p).ins q = (w.ins q).ins p := by
  refine wd_ext rfl rfl rfl (ins_ris (ins_ris hr p) q) (ins_ris (ins_ris hr q) p) fun id => ?_
  rw [q5f (ins_ris hr p), q5f hr, q5f (ins_ris hr q), q5f hr]
  by_cases e1 : q.id = id
  · rw [if_pos e1, if_neg (by omega), if_pos e1]
  · rw [if_neg e1, if_neg e1]
theorem over_ext {w : Wd} (hr : RisO w.objects) {p q : Ob} (h : p.id = q.id) : (w.ins p).ins q = w.ins q := by
  refine wd_ext rfl rfl rfl (ins_ris (ins_ris hr p) q) (ins_ris hr q) fun id => ?_
  rw [q5f (ins_ris hr p), q5f hr, q5f hr]
  by_cases e1 : q.id = id
  · rw [if_pos e1, if_pos e1]
  · rw [if_neg e1, if_neg e1, if_neg (by omega)]
theorem setO_id (o : Ob) (a v : Int) : (setO o a v).id = o.id := rfl
theorem setO_comm (o : Ob) {a b v u : Int} (ha : 0 ≤ a) (hb : 0 ≤ b) (h : a ≠ b) : setO (setO o a v) b u = setO (setO o b u) a v := by
  unfold setO
  simp only
  rw [List.set_comm _ _ (by omega : a.toNat ≠ b.toNat)]
theorem stores_swap {w : Wd} (hf : FewW w) (hw : fitW w = true) (t : Ob) (k m : Nat) (v u : Int) (h1 : q3t w t k = true) (h2 : q3t w t m = true) (hne : ((q2v w t k).1.1.id == (q2v w t m).1.1.id && (q2v w t k).1.2.1 == (q2v w t m).1.2.1) = false) :
    (q3c (q3c w t k v).1 t m u).1 = (q3c (q3c w t m u).1 t k v).1 := by
  have hwd := q5m hw
  have hr := (q5s hwd).1
  obtain ⟨a, _⟩ := may_ok hf hw h1
  obtain ⟨b, _⟩ := may_ok hf hw h2
  rw [q4i h1, q4i h2]
  simp only
  rw [q4i (may_after hf hw t k m v h1 h2), q4i (may_after hf hw t m k u h2 h1)]
  simp only
  rw [set_walk hwd a.mem, set_walk hwd b.mem]
  simp only
  generalize (q2v w t k).1 = P at a hne ⊢
  generalize (q2v w t m).1 = Q at b hne ⊢
  obtain ⟨p, i, _⟩ := P
  obtain ⟨q, j, _⟩ := Q
  simp only at hne ⊢
  have a0 := a.at0
  have b0 := b.at0
  have am := a.mem
  have bm := b.mem
  simp only at a0 b0 am bm
  by_cases e : p.id = q.id
  · have := id_eq hr am bm e
    subst this
    rw [q5t, q5t]
    have hij : i ≠ j := fun h => by subst h; simp at hne
    rw [over_ext hr (by rfl), over_ext hr (by rfl), setO_comm p a0 b0 hij]
  · rw [one_ne (fun h => e (by rw [h])), one_ne (fun h => e (by rw [h]))]
    exact swap_ext hr e
theorem load_after {w : Wd} (hf : FewW w) (hw : fitW w = true) (t s : Ob) (k m : Nat) (v : Int) (h1 : q3t w t k = true) :
    ((q5z (q3c w t k v).1 s m).2 = (q5z w s m).2) ∧ (((q2v w s m).2 == 0) = true → ((q2v w t k).1.1.id == (q2v w s m).1.1.id && (q2v w t k).1.2.1 == (q2v w s m).1.2.1) = true → (q5z (q3c w t k v).1 s m).1 = v) ∧ (((q2v w s m).2 == 0) = true → ((q2v w t k).1.1.id == (q2v w s m).1.1.id && (q2v w t k).1.2.1 == (q2v w s m).1.2.1) = false → (q5z (q3c w t k v).1 s m).1 = (q5z w s m).1) := by
  have hwd := q5m hw
  have hr := (q5s hwd).1
  obtain ⟨a, _⟩ := may_ok hf hw h1
  have hb := q5x (t := s) (k := m) hf hw
  rw [q4i h1]
  simp only
  unfold q5z
  rw [set_walk hwd a.mem]
  simp only
  generalize q2v w t k = P at a ⊢
  generalize q2v w s m = Q at hb ⊢
  obtain ⟨⟨p, i, _⟩, _⟩ := P
  obtain ⟨⟨q, j, _⟩, f⟩ := Q
  have a0 := a.at0
  have am := a.mem
  have al := a.len
  simp only at a0 am al hb ⊢
  refine ⟨by split <;> rfl, fun he hs => ?_, fun he hs => ?_⟩
  · rw [if_pos he]
    simp only [Bool.and_eq_true, beq_iff_eq] at hs
    obtain ⟨hs1, rfl⟩ := hs
    have := id_eq hr am (hb he).mem hs1
    simp only at this
    subst this
    rw [q5t]
    simp only [setO]
    rw [List.getElem?_set_self (by omega)]; rfl
  · rw [if_pos he, if_pos he]
    simp only
    by_cases e : q = p
    · subst e
      rw [q5t]
      simp only [setO]
      have b0 := (hb he).at0
      simp only at b0
      rw [List.getElem?_set_ne (by intro h; have : i = j := by omega
                                   subst this; simp at hs)]
    · rw [one_ne e]
attribute [local irreducible] q0x dr q0g Ex.then Ex.inBlock retQ q1x q3g q3e Pure CSat evOp q2o rdOf upd hset strip sp0 cut envL q2u q4j Keep BdL evBs q3m q4g
theorem law18_swaps (w : Wd) (t : Ob) (addr other v u : Int) (xw : w.wf) (xt : t.wf) (xa : U addr) (xo : U other) (xv : U v) (xu : U u) :
    Pure Tryz.prog 9 [.agg (Wd.enc w), .agg (Ob.enc t), .int .u64 addr, .int .u64 other, .int .u64 v, .int .u64 u] (.bool true) := by
  have hk := law18_awake
  have lo : ∀ x ∈ w.objects, x.L := fun x hx => Ob.lens (xw.2.2.2.1 x hx)
  have lt := Ob.lens xt
  have b1 := law18_few w xw.2.2.2.2 lo
  cases h1 : fewR w with
  | false =>
    rw [h1] at b1
    refine q2i (by kernel_rfl) (by simp only [go_sem, *]) (by simp only [go_sem, *]) Tryz.func9 Tryz.results9 rfl (by simp [Tryz.ntmps9]) (by kernel_rfl) ?_
    repeat' (first | (show q0x ..; first | refine q0d ?_ | refine q0p rfl ?_ | refine q0z rfl rfl ?_) | (show q1d ..; first | refine q0n rfl rfl ?_ | refine q0h rfl ?_) | (show goOn ..; first | refine q0s ?_ | refine q0v ?_ | refine q0w ?_) | (show q1g ..; refine q0i ?_) | (show q1j ..; (refine q0u (r := ?_) ?_ ?_; rotate_left 1; (focus first | exact b1 | exact hk))) | (show wGo ..; first | refine q1o ?_ | refine q1u ?_ | refine q1q ?_ | refine q1s ?_ | refine gw_u ?_ | refine q1p (fun _ => ?_) (fun _ => ?_) | refine q1t (fun _ => ?_) (fun _ => ?_) | refine q1r (fun _ => ?_) (fun _ => ?_) | refine q1v (fun _ => ?_) (fun _ => ?_)) | (show q0g ..; first | refine q0q ?_ | refine q0c ?_ | refine q0r ?_ | refine q0f ?_ | refine q0k ?_) | (show q0y ..; first | refine cd_t ?_ | refine cd_f ?_ | refine cd_n (fun _ => ?_) (fun _ => ?_) | refine cd_b (fun _ => ?_) (fun _ => ?_)) | refine q0a ?_ | refine q0m ?_ | refine q0l ?_ | (show retQ ..; first | refine q0o ?_ | refine q0b ?_) | refine q0e ?_)
    all_goals rfl
  | true =>
  have b2 := q5w t lt
  cases h2 : thrR t with
  | false =>
    rw [h1] at b1
    rw [h2] at b2
    refine q2i (by kernel_rfl) (by simp only [go_sem, *]) (by simp only [go_sem, *]) Tryz.func9 Tryz.results9 rfl (by simp [Tryz.ntmps9]) (by kernel_rfl) ?_
    repeat' (first | (show q0x ..; first | refine q0d ?_ | refine q0p rfl ?_ | refine q0z rfl rfl ?_) | (show q1d ..; first | refine q0n rfl rfl ?_ | refine q0h rfl ?_) | (show goOn ..; first | refine q0s ?_ | refine q0v ?_ | refine q0w ?_) | (show q1g ..; refine q0i ?_) | (show q1j ..; (refine q0u (r := ?_) ?_ ?_; rotate_left 1; (focus first | exact b1 | exact b2 | exact hk))) | (show wGo ..; first | refine q1o ?_ | refine q1u ?_ | refine q1q ?_ | refine q1s ?_ | refine gw_u ?_ | refine q1p (fun _ => ?_) (fun _ => ?_) | refine q1t (fun _ => ?_) (fun _ => ?_) | refine q1r (fun _ => ?_) (fun _ => ?_) | refine q1v (fun _ => ?_) (fun _ => ?_)) | (show q0g ..; first | refine q0q ?_ | refine q0c ?_ | refine q0r ?_ | refine q0f ?_ | refine q0k ?_) | (show q0y ..; first | refine cd_t ?_ | refine cd_f ?_ | refine cd_n (fun _ => ?_) (fun _ => ?_) | refine cd_b (fun _ => ?_) (fun _ => ?_)) | refine q0a ?_ | refine q0m ?_ | refine q0l ?_ | (show retQ ..; first | refine q0o ?_ | refine q0b ?_) | refine q0e ?_)
    all_goals rfl
  | true =>
  rw [h1] at b1
  rw [h2] at b2
  obtain ⟨hf, hw⟩ := fewR_of h1
  have lw : w.L := ⟨xw.2.2.2.2, fun x hx => ⟨lo x hx, by have := (hf.ob x hx).1; omega⟩⟩
  have hwd := q5m hw
  obtain ⟨ht, htl⟩ := thr_fit h2
  clear h1 h2
  obtain ⟨k, hk64, rfl⟩ := U_nat xa
  obtain ⟨m, hm64, rfl⟩ := U_nat xo
  have g : Good w := ⟨lw, hf, hw⟩
  have c1 := mem_store w t k v hk64 hf hw ht htl
  have c2 := mem_store w t m u hm64 hf hw ht htl
  cases h1 : q3t w t k with
  | false =>
    rw [store_no h1] at c1
    generalize q3c w t m u = S at c2
    refine q2i (by kernel_rfl) (by simp only [go_sem, *]) (by simp only [go_sem, *]) Tryz.func9 Tryz.results9 rfl (by simp [Tryz.ntmps9]) (by kernel_rfl) ?_
    repeat' (first | (show q0x ..; first | refine q0d ?_ | refine q0p rfl ?_ | refine q0z rfl rfl ?_) | (show q1d ..; first | refine q0n rfl rfl ?_ | refine q0h rfl ?_) | (show goOn ..; first | refine q0s ?_ | refine q0v ?_ | refine q0w ?_) | (show q1g ..; refine q0i ?_) | (show q1j ..; (refine q0u (r := ?_) ?_ ?_; rotate_left 1; (focus first | exact b1 | exact b2 | exact c1 | exact c2 | exact hk))) | (show wGo ..; first | refine q1o ?_ | refine q1u ?_ | refine q1q ?_ | refine q1s ?_ | refine gw_u ?_ | refine q1p (fun _ => ?_) (fun _ => ?_) | refine q1t (fun _ => ?_) (fun _ => ?_) | refine q1r (fun _ => ?_) (fun _ => ?_) | refine q1v (fun _ => ?_) (fun _ => ?_)) | (show q0g ..; first | refine q0q ?_ | refine q0c ?_ | refine q0r ?_ | refine q0f ?_ | refine q0k ?_) | (show q0y ..; first | refine cd_t ?_ | refine cd_f ?_ | refine cd_n (fun _ => ?_) (fun _ => ?_) | refine cd_b (fun _ => ?_) (fun _ => ?_)) | refine q0a ?_ | refine q0m ?_ | refine q0l ?_ | (show retQ ..; first | refine q0o ?_ | refine q0b ?_) | refine q0e ?_)
    all_goals rfl
  | true =>
  cases h2 : q3t w t m with
  | false =>
    rw [store_no h2] at c2
    have hy : (q3c w t k v).2 = true := by rw [q4i h1]
    generalize q3c w t k v = S at c1 hy
    obtain ⟨sa, sb⟩ := S
    simp only at hy c1
    subst hy
    refine q2i (by kernel_rfl) (by simp only [go_sem, *]) (by simp only [go_sem, *]) Tryz.func9 Tryz.results9 rfl (by simp [Tryz.ntmps9]) (by kernel_rfl) ?_
    repeat' (first | (show q0x ..; first | refine q0d ?_ | refine q0p rfl ?_ | refine q0z rfl rfl ?_) | (show q1d ..; first | refine q0n rfl rfl ?_ | refine q0h rfl ?_) | (show goOn ..; first | refine q0s ?_ | refine q0v ?_ | refine q0w ?_) | (show q1g ..; refine q0i ?_) | (show q1j ..; (refine q0u (r := ?_) ?_ ?_; rotate_left 1; (focus first | exact b1 | exact b2 | exact c1 | exact c2 | exact hk))) | (show wGo ..; first | refine q1o ?_ | refine q1u ?_ | refine q1q ?_ | refine q1s ?_ | refine gw_u ?_ | refine q1p (fun _ => ?_) (fun _ => ?_) | refine q1t (fun _ => ?_) (fun _ => ?_) | refine q1r (fun _ => ?_) (fun _ => ?_) | refine q1v (fun _ => ?_) (fun _ => ?_)) | (show q0g ..; first | refine q0q ?_ | refine q0c ?_ | refine q0r ?_ | refine q0f ?_ | refine q0k ?_) | (show q0y ..; first | refine cd_t ?_ | refine cd_f ?_ | refine cd_n (fun _ => ?_) (fun _ => ?_) | refine cd_b (fun _ => ?_) (fun _ => ?_)) | refine q0a ?_ | refine q0m ?_ | refine q0l ?_ | (show retQ ..; first | refine q0o ?_ | refine q0b ?_) | refine q0e ?_)
    all_goals rfl
  | true =>
  have g1 := store_good g t k v
  have g2 := store_good g t m u
  have c3 := memWalk w t k hk64 hf hwd ht htl
  have c4 := memWalk w t m hm64 hf hwd ht htl
  have c5 := mem_store (q3c w t k v).1 t m u hm64 g1.few g1.fit ht htl
  have c6 := mem_store (q3c w t m u).1 t k v hk64 g2.few g2.fit ht htl
  have m1 : q3t (q3c w t k v).1 t m = true := by rw [q4i h1]; exact may_after hf hw t k m v h1 h2
  have m2 : q3t (q3c w t m u).1 t k = true := by rw [q4i h2]; exact may_after hf hw t m k u h2 h1
  have y1 : (q3c w t k v).2 = true := by rw [q4i h1]
  have y2 : (q3c w t m u).2 = true := by rw [q4i h2]
  have y3 : (q3c (q3c w t k v).1 t m u).2 = true := by rw [q4i m1]
  have y4 : (q3c (q3c w t m u).1 t k v).2 = true := by rw [q4i m2]
  have g3 := store_good g1 t m u
  have c7 := mem_load (q3c (q3c w t k v).1 t m u).1 t m hm64 g3.few (q5m g3.fit) (q5x g3.few g3.fit) ht htl
  have hsw := stores_swap hf hw t k m v u h1 h2
  obtain ⟨z1, z2, _⟩ := load_after g1.few g1.fit t t m m u m1
  have e9 := (may_ok g1.few g1.fit m1).2
  have z3 : (q5z (q3c (q3c w t k v).1 t m u).1 t m).1 = u := z2 e9 (by simp)
  have z4 : (q5z (q3c (q3c w t k v).1 t m u).1 t m).2 = true := by rw [z1]; unfold q5z; rw [if_pos e9]
  clear z1 z2 e9 m1 m2 h1 h2
  generalize q5z (q3c (q3c w t k v).1 t m u).1 t m = X7 at c7 z3 z4
  obtain ⟨l1, l2⟩ := X7
  simp only at z3 z4 c7
  subst z3 z4
  have s1 : ((q2v w t k).1.1.id == (q2v w t m).1.1.id && (q2v w t k).1.2.1 == (q2v w t m).1.2.1) = false → Pure Tryz.prog 26 [.agg (Wd.enc (q3c (q3c w t k v).1 t m l1).1), .agg (Wd.enc (q3c (q3c w t m l1).1 t k v).1)] (.bool true) := fun h => same_c g3.L (hsw h)
  clear g3 hsw g1 g2 g
  generalize q3c (q3c w t k v).1 t m l1 = X5 at c5 y3 s1 c7
  generalize q3c (q3c w t m l1).1 t k v = X6 at c6 y4 s1
  generalize q3c w t k v = X1 at c1 y1 c5
  generalize q3c w t m l1 = X2 at c2 y2 c6
  obtain ⟨w1, q1⟩ := X1
  obtain ⟨w2, q2⟩ := X2
  obtain ⟨w5, q5⟩ := X5
  obtain ⟨w6, q6⟩ := X6
  simp only at c1 c2 c5 c6 c7 y1 y2 y3 y4 s1
  subst y1 y2 y3 y4
  generalize q2v w t k = P at c3 s1
  generalize q2v w t m = Q at c4 s1
  obtain ⟨⟨p, i, _⟩, _⟩ := P
  obtain ⟨⟨q, j, _⟩, _⟩ := Q
  simp only at c3 c4 s1
  have self : (l1 != l1) = false := by simp [bne]
  cases d1 : (p.id == q.id) with
  | false =>
    have s1 := s1 (by rw [d1]; rfl)
    refine q2i (by kernel_rfl) (by simp only [go_sem, *]) (by simp only [go_sem, *]) Tryz.func9 Tryz.results9 rfl (by simp [Tryz.ntmps9]) (by kernel_rfl) ?_
    repeat' (first | (show q0x ..; first | refine q0d ?_ | refine q0p rfl ?_ | refine q0z rfl rfl ?_) | (show q1d ..; first | refine q0n rfl rfl ?_ | refine q0h rfl ?_) | (show goOn ..; first | refine q0s ?_ | refine q0v ?_ | refine q0w ?_) | (show q1g ..; refine q0i ?_) | (show q1j ..; (refine q0u (r := ?_) ?_ ?_; rotate_left 1; (focus first | exact b1 | exact b2 | exact c1 | exact c2 | exact c3 | exact c4 | exact c5 | exact c6 | exact c7 | exact s1 | exact hk))) | (show wGo ..; first | refine q1o ?_ | refine q1u ?_ | refine q1q ?_ | refine q1s ?_ | refine gw_u ?_ | refine q1p (fun _ => ?_) (fun _ => ?_) | refine q1t (fun _ => ?_) (fun _ => ?_) | refine q1r (fun _ => ?_) (fun _ => ?_) | refine q1v (fun _ => ?_) (fun _ => ?_)) | (show q0g ..; first | refine q0q ?_ | refine q0c ?_ | refine q0r ?_ | refine q0f ?_ | refine q0k ?_) | (show q0y ..; first | refine cd_t ?_ | refine cd_f ?_ | refine cd_n (fun _ => ?_) (fun _ => ?_) | refine cd_b (fun _ => ?_) (fun _ => ?_)) | refine q0a ?_ | refine q0m ?_ | refine q0l ?_ | (show retQ ..; first | refine q0o ?_ | refine q0b ?_) | refine q0e ?_)
    all_goals rfl
  | true =>
  cases d2 : (i == j) with
  | false =>
    have s1 := s1 (by rw [d1, d2]; rfl)
    refine q2i (by kernel_rfl) (by simp only [go_sem, *]) (by simp only [go_sem, *]) Tryz.func9 Tryz.results9 rfl (by simp [Tryz.ntmps9]) (by kernel_rfl) ?_
    repeat' (first | (show q0x ..; first | refine q0d ?_ | refine q0p rfl ?_ | refine q0z rfl rfl ?_) | (show q1d ..; first | refine q0n rfl rfl ?_ | refine q0h rfl ?_) | (show goOn ..; first | refine q0s ?_ | refine q0v ?_ | refine q0w ?_) | (show q1g ..; refine q0i ?_) | (show q1j ..; (refine q0u (r := ?_) ?_ ?_; rotate_left 1; (focus first | exact b1 | exact b2 | exact c1 | exact c2 | exact c3 | exact c4 | exact c5 | exact c6 | exact c7 | exact s1 | exact hk))) | (show wGo ..; first | refine q1o ?_ | refine q1u ?_ | refine q1q ?_ | refine q1s ?_ | refine gw_u ?_ | refine q1p (fun _ => ?_) (fun _ => ?_) | refine q1t (fun _ => ?_) (fun _ => ?_) | refine q1r (fun _ => ?_) (fun _ => ?_) | refine q1v (fun _ => ?_) (fun _ => ?_)) | (show q0g ..; first | refine q0q ?_ | refine q0c ?_ | refine q0r ?_ | refine q0f ?_ | refine q0k ?_) | (show q0y ..; first | refine cd_t ?_ | refine cd_f ?_ | refine cd_n (fun _ => ?_) (fun _ => ?_) | refine cd_b (fun _ => ?_) (fun _ => ?_)) | refine q0a ?_ | refine q0m ?_ | refine q0l ?_ | (show retQ ..; first | refine q0o ?_ | refine q0b ?_) | refine q0e ?_)
    all_goals rfl
  | true =>
    clear s1
    refine q2i (by kernel_rfl) (by simp only [go_sem, *]) (by simp only [go_sem, *]) Tryz.func9 Tryz.results9 rfl (by simp [Tryz.ntmps9]) (by kernel_rfl) ?_
    repeat' (first | (show q0x ..; first | refine q0d ?_ | refine q0p rfl ?_ | refine q0z rfl rfl ?_) | (show q1d ..; first | refine q0n rfl rfl ?_ | refine q0h rfl ?_) | (show goOn ..; first | refine q0s ?_ | refine q0v ?_ | refine q0w ?_) | (show q1g ..; refine q0i ?_) | (show q1j ..; (refine q0u (r := ?_) ?_ ?_; rotate_left 1; (focus first | exact b1 | exact b2 | exact c1 | exact c2 | exact c3 | exact c4 | exact c5 | exact c6 | exact c7 | exact hk))) | (show wGo ..; first | refine q1o ?_ | refine q1u ?_ | refine q1q ?_ | refine q1s ?_ | refine gw_u ?_ | refine q1p (fun _ => ?_) (fun _ => ?_) | refine q1t (fun _ => ?_) (fun _ => ?_) | refine q1r (fun _ => ?_) (fun _ => ?_) | refine q1v (fun _ => ?_) (fun _ => ?_)) | (show q0g ..; first | refine q0q ?_ | refine q0c ?_ | refine q0r ?_ | refine q0f ?_ | refine q0k ?_) | (show q0y ..; first | refine cd_t ?_ | refine cd_f ?_ | refine cd_n (fun _ => ?_) (fun _ => ?_) | refine cd_b (fun _ => ?_) (fun _ => ?_)) | refine q0a ?_ | refine q0m ?_ | refine q0l ?_ | (show retQ ..; first | refine q0o ?_ | refine q0b ?_) | refine q0e ?_)
    all_goals rfl
end Go.Proofs.YteibeoipnjhicaaGreat
