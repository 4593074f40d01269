import Derived.Test.YteibeoipnjhicaaGreatEm5
namespace Go.Proofs.YteibeoipnjhicaaGreat
open Go Go.RowKit
set_option linter.unusedVariables false
set_option linter.unusedSimpArgs false
set_option maxHeartbeats 16000000
set_option maxRecDepth 100000
attribute [local irreducible] q0x dr q0g Ex.then Ex.inBlock retQ q1x q3g q3e Pure CSat evOp q2o rdOf upd hset strip sp0 cut envL q2u q4j Keep BdL evBs q3m q4g
theorem law18_stores (w : Wd) (t u : Ob) (addr other v : Int) (xw : w.wf) (xt : t.wf) (xu : u.wf) (xa : U addr) (xo : U other) (xv : U v) :
    Pure Tryz.prog 7 [.agg (Wd.enc w), .agg (Ob.enc t), .agg (Ob.enc u), .int .u64 addr, .int .u64 other, .int .u64 v] (.bool true) := by
  have hk := law18_awake
  have lo : ∀ x ∈ w.objects, x.L := fun x hx => Ob.lens (xw.2.2.2.1 x hx)
  have lt := Ob.lens xt
  have lu := Ob.lens xu
  have b1 := law18_few w xw.2.2.2.2 lo
  cases h1 : fewR w with
  | false =>
    rw [h1] at b1
    refine q2i (by kernel_rfl) (by simp only [go_sem, *]) (by simp only [go_sem, *]) Tryz.func7 Tryz.results7 rfl (by simp [Tryz.ntmps7]) (by kernel_rfl) ?_
    repeat' (first | (show q0x ..; first | refine q0d ?_ | refine q0p rfl ?_ | refine q0z rfl rfl ?_) | (show q1d ..; first | refine q0n rfl rfl ?_ | refine q0h rfl ?_) | (show goOn ..; first | refine q0s ?_ | refine q0v ?_ | refine q0w ?_) | (show q1g ..; refine q0i ?_) | (show q1j ..; (refine q0u (r := ?_) ?_ ?_; rotate_left 1; (focus first | exact b1 | exact hk))) | (show wGo ..; first | refine q1o ?_ | refine q1u ?_ | refine q1q ?_ | refine q1s ?_ | refine gw_u ?_ | refine q1p (fun _ => ?_) (fun _ => ?_) | refine q1t (fun _ => ?_) (fun _ => ?_) | refine q1r (fun _ => ?_) (fun _ => ?_) | refine q1v (fun _ => ?_) (fun _ => ?_)) | (show dr ..; first | refine q1k ?_ | refine dr_n rfl ?_ | refine q3b rfl rfl ?_) | (show drGo ..; first | refine q2h rfl ?_ | refine q1n rfl ?_) | (show drOn ..; first | refine q1l ?_ | refine q1z ?_ | refine q1y ?_) | (show q1w ..; refine q1e ?_) | (show q2l ..; (refine q1m (r := ?_) ?_ ?_; rotate_left 1; (focus first | exact b1 | exact hk))) | (refine And.intro (by kernel_rfl : q1x _ = true) ?_) | (show q0g ..; first | refine q0q ?_ | refine q0c ?_ | refine q1h (by kernel_rfl) ?_ | refine q0r ?_ | refine q0f ?_ | refine q0t ?_ | refine q1b ?_ | refine q0k ?_) | (show q0y ..; first | refine cd_t ?_ | refine cd_f ?_ | refine cd_n (fun _ => ?_) (fun _ => ?_) | refine cd_b (fun _ => ?_) (fun _ => ?_)) | refine q0a ?_ | refine q0m ?_ | refine q0l ?_ | refine q1a ?_ | refine q0j ?_ | refine q1c ?_ | refine bl_pass rfl ?_ | refine q1f ?_ | refine bl_pan ?_ | (show retQ ..; first | refine q0o ?_ | refine q0b ?_) | refine q0e ?_)
    all_goals rfl
  | true =>
  have b2 := q5w t lt
  cases h2 : thrR t with
  | false =>
    rw [h1] at b1
    rw [h2] at b2
    refine q2i (by kernel_rfl) (by simp only [go_sem, *]) (by simp only [go_sem, *]) Tryz.func7 Tryz.results7 rfl (by simp [Tryz.ntmps7]) (by kernel_rfl) ?_
    repeat' (first | (show q0x ..; first | refine q0d ?_ | refine q0p rfl ?_ | refine q0z rfl rfl ?_) | (show q1d ..; first | refine q0n rfl rfl ?_ | refine q0h rfl ?_) | (show goOn ..; first | refine q0s ?_ | refine q0v ?_ | refine q0w ?_) | (show q1g ..; refine q0i ?_) | (show q1j ..; (refine q0u (r := ?_) ?_ ?_; rotate_left 1; (focus first | exact b1 | exact b2 | exact hk))) | (show wGo ..; first | refine q1o ?_ | refine q1u ?_ | refine q1q ?_ | refine q1s ?_ | refine gw_u ?_ | refine q1p (fun _ => ?_) (fun _ => ?_) | refine q1t (fun _ => ?_) (fun _ => ?_) | refine q1r (fun _ => ?_) (fun _ => ?_) | refine q1v (fun _ => ?_) (fun _ => ?_)) | (show dr ..; first | refine q1k ?_ | refine dr_n rfl ?_ | refine q3b rfl rfl ?_) | (show drGo ..; first | refine q2h rfl ?_ | refine q1n rfl ?_) | (show drOn ..; first | refine q1l ?_ | refine q1z ?_ | refine q1y ?_) | (show q1w ..; refine q1e ?_) | (show q2l ..; (refine q1m (r := ?_) ?_ ?_; rotate_left 1; (focus first | exact b1 | exact b2 | exact hk))) | (refine And.intro (by kernel_rfl : q1x _ = true) ?_) | (show q0g ..; first | refine q0q ?_ | refine q0c ?_ | refine q1h (by kernel_rfl) ?_ | refine q0r ?_ | refine q0f ?_ | refine q0t ?_ | refine q1b ?_ | refine q0k ?_) | (show q0y ..; first | refine cd_t ?_ | refine cd_f ?_ | refine cd_n (fun _ => ?_) (fun _ => ?_) | refine cd_b (fun _ => ?_) (fun _ => ?_)) | refine q0a ?_ | refine q0m ?_ | refine q0l ?_ | refine q1a ?_ | refine q0j ?_ | refine q1c ?_ | refine bl_pass rfl ?_ | refine q1f ?_ | refine bl_pan ?_ | (show retQ ..; first | refine q0o ?_ | refine q0b ?_) | refine q0e ?_)
    all_goals rfl
  | true =>
  have b3 := q5w u lu
  cases h3 : thrR u with
  | false =>
    rw [h1] at b1
    rw [h2] at b2
    rw [h3] at b3
    refine q2i (by kernel_rfl) (by simp only [go_sem, *]) (by simp only [go_sem, *]) Tryz.func7 Tryz.results7 rfl (by simp [Tryz.ntmps7]) (by kernel_rfl) ?_
    repeat' (first | (show q0x ..; first | refine q0d ?_ | refine q0p rfl ?_ | refine q0z rfl rfl ?_) | (show q1d ..; first | refine q0n rfl rfl ?_ | refine q0h rfl ?_) | (show goOn ..; first | refine q0s ?_ | refine q0v ?_ | refine q0w ?_) | (show q1g ..; refine q0i ?_) | (show q1j ..; (refine q0u (r := ?_) ?_ ?_; rotate_left 1; (focus first | exact b1 | exact b2 | exact b3 | exact hk))) | (show wGo ..; first | refine q1o ?_ | refine q1u ?_ | refine q1q ?_ | refine q1s ?_ | refine gw_u ?_ | refine q1p (fun _ => ?_) (fun _ => ?_) | refine q1t (fun _ => ?_) (fun _ => ?_) | refine q1r (fun _ => ?_) (fun _ => ?_) | refine q1v (fun _ => ?_) (fun _ => ?_)) | (show dr ..; first | refine q1k ?_ | refine dr_n rfl ?_ | refine q3b rfl rfl ?_) | (show drGo ..; first | refine q2h rfl ?_ | refine q1n rfl ?_) | (show drOn ..; first | refine q1l ?_ | refine q1z ?_ | refine q1y ?_) | (show q1w ..; refine q1e ?_) | (show q2l ..; (refine q1m (r := ?_) ?_ ?_; rotate_left 1; (focus first | exact b1 | exact b2 | exact b3 | exact hk))) | (refine And.intro (by kernel_rfl : q1x _ = true) ?_) | (show q0g ..; first | refine q0q ?_ | refine q0c ?_ | refine q1h (by kernel_rfl) ?_ | refine q0r ?_ | refine q0f ?_ | refine q0t ?_ | refine q1b ?_ | refine q0k ?_) | (show q0y ..; first | refine cd_t ?_ | refine cd_f ?_ | refine cd_n (fun _ => ?_) (fun _ => ?_) | refine cd_b (fun _ => ?_) (fun _ => ?_)) | refine q0a ?_ | refine q0m ?_ | refine q0l ?_ | refine q1a ?_ | refine q0j ?_ | refine q1c ?_ | refine bl_pass rfl ?_ | refine q1f ?_ | refine bl_pan ?_ | (show retQ ..; first | refine q0o ?_ | refine q0b ?_) | refine q0e ?_)
    all_goals rfl
  | true =>
  rw [h1] at b1
  rw [h2] at b2
  rw [h3] at b3
  obtain ⟨hu, hul⟩ := thr_fit h3
  obtain ⟨hf, hw⟩ := fewR_of h1
  have lw : w.L := ⟨xw.2.2.2.2, fun x hx => ⟨lo x hx, by have := (hf.ob x hx).1; omega⟩⟩
  have hwd := q5m hw
  obtain ⟨ht, htl⟩ := thr_fit h2
  clear h1 h2 h3
  obtain ⟨k, hk64, rfl⟩ := U_nat xa
  obtain ⟨m, hm64, rfl⟩ := U_nat xo
  have g : Good w := ⟨lw, hf, hw⟩
  have c1 := mem_store w t k v hk64 hf hw ht htl
  cases h1 : q3t w t k with
  | false =>
    rw [store_no h1] at c1
    have s1 := same_c lw (rfl : w = w)
    refine q2i (by kernel_rfl) (by simp only [go_sem, *]) (by simp only [go_sem, *]) Tryz.func7 Tryz.results7 rfl (by simp [Tryz.ntmps7]) (by kernel_rfl) ?_
    repeat' (first | (show q0x ..; first | refine q0d ?_ | refine q0p rfl ?_ | refine q0z rfl rfl ?_) | (show q1d ..; first | refine q0n rfl rfl ?_ | refine q0h rfl ?_) | (show goOn ..; first | refine q0s ?_ | refine q0v ?_ | refine q0w ?_) | (show q1g ..; refine q0i ?_) | (show q1j ..; (refine q0u (r := ?_) ?_ ?_; rotate_left 1; (focus first | exact b1 | exact b2 | exact b3 | exact c1 | exact s1 | exact hk))) | (show wGo ..; first | refine q1o ?_ | refine q1u ?_ | refine q1q ?_ | refine q1s ?_ | refine gw_u ?_ | refine q1p (fun _ => ?_) (fun _ => ?_) | refine q1t (fun _ => ?_) (fun _ => ?_) | refine q1r (fun _ => ?_) (fun _ => ?_) | refine q1v (fun _ => ?_) (fun _ => ?_)) | (show dr ..; first | refine q1k ?_ | refine dr_n rfl ?_ | refine q3b rfl rfl ?_) | (show drGo ..; first | refine q2h rfl ?_ | refine q1n rfl ?_) | (show drOn ..; first | refine q1l ?_ | refine q1z ?_ | refine q1y ?_) | (show q1w ..; refine q1e ?_) | (show q2l ..; (refine q1m (r := ?_) ?_ ?_; rotate_left 1; (focus first | exact b1 | exact b2 | exact b3 | exact c1 | exact s1 | exact hk))) | (refine And.intro (by kernel_rfl : q1x _ = true) ?_) | (show q0g ..; first | refine q0q ?_ | refine q0c ?_ | refine q1h (by kernel_rfl) ?_ | refine q0r ?_ | refine q0f ?_ | refine q0t ?_ | refine q1b ?_ | refine q0k ?_) | (show q0y ..; first | refine cd_t ?_ | refine cd_f ?_ | refine cd_n (fun _ => ?_) (fun _ => ?_) | refine cd_b (fun _ => ?_) (fun _ => ?_)) | refine q0a ?_ | refine q0m ?_ | refine q0l ?_ | refine q1a ?_ | refine q0j ?_ | refine q1c ?_ | refine bl_pass rfl ?_ | refine q1f ?_ | refine bl_pan ?_ | (show retQ ..; first | refine q0o ?_ | refine q0b ?_) | refine q0e ?_)
    all_goals rfl
  | true =>
  have g1 := store_good g t k v
  have c2 := r18_walk w t k hk64 hf hwd htl
  have c3 := r18_walk w u m hm64 hf hwd hul
  have c4 := mem_load (q3c w t k v).1 u m hm64 g1.few (q5m g1.fit) (q5x g1.few g1.fit) hu hul
  have c5 := mem_load w u m hm64 hf hwd (q5x hf hw) hu hul
  obtain ⟨z1, z2, z3⟩ := load_after hf hw t u k m v h1
  obtain ⟨ha, _⟩ := may_ok hf hw h1
  have hobj : (q3c w t k v).1.objects = w.objects.map (one (q2v w t k).1.1 (setO (q2v w t k).1.1 (q2v w t k).1.2.1 v)) := by rw [q4i h1]; exact (set_rep hwd ha.mem _ _).objs
  have y1 : (q3c w t k v).2 = true := by rw [q4i h1]
  have hld : (q5z w u m).2 = ((q2v w u m).2 == 0) := by unfold q5z; split <;> simp_all
  have am := ha.mem
  have hr := (q5s hwd).1
  have gx := g1.L
  have hn := hf.n
  clear ha h1 g1 g
  generalize q3c w t k v = X1 at c1 c4 z1 z2 z3 hobj y1 gx
  generalize q5z X1.1 u m = X4 at c4 z1 z2 z3
  generalize q5z w u m = X5 at c5 z1 z2 z3 hld
  generalize q2v w t k = P at c2 z2 z3 hobj am
  generalize q2v w u m = Q at c3 z2 z3 hld
  obtain ⟨x, xb⟩ := X1
  obtain ⟨got, is⟩ := X4
  obtain ⟨was, had⟩ := X5
  obtain ⟨⟨a, at_, wa⟩, ea⟩ := P
  obtain ⟨⟨b, to_, wb⟩, e⟩ := Q
  simp only at c1 c2 c3 c4 c5 z1 z2 z3 hobj y1 am hld gx
  subst y1 z1 hld
  have hlen : x.objects.length = w.objects.length := by rw [hobj, List.length_map]
  have hsl : ∀ y ∈ w.objects, y.L := fun y hy => (lw.2 y hy).1
  have body : ∀ (R1 : Bool) (n : Nat), n < w.objects.length → ∃ y z, w.objects[n]? = some y ∧ x.objects[n]? = some z ∧ ((z.id == a.id) = false → z = y) ∧ ((z.id == a.id) = true → z.data.length = a.data.length) := fun _ n hn => by
    obtain ⟨y, hy⟩ := q3d hn
    refine ⟨y, one a (setO a at_ v) y, hy, by rw [hobj, List.getElem?_map, hy]; rfl, fun h => ?_, fun h => ?_⟩
    · by_cases e : y = a
      · rw [e, q5t, setO_id] at h; simp at h
      · exact one_ne e
    · by_cases e : y = a
      · rw [e, q5t]; exact List.length_set ..
      · rw [one_ne e] at h
        exact absurd (id_eq hr (sidx hy) am (by simpa using h)) e
  have body := body true
  clear hobj hr am
  have q1 : (e == 0) = true → (a.id == b.id && at_ == to_) = true → (got != v) = false := fun h h' => by rw [z2 h h']; simp [bne]
  have q2 : (e == 0) = true → (a.id == b.id && at_ == to_) = false → (got != was) = false := fun h h' => by rw [z3 h h']; simp [bne]
  have n1 : (a.id != b.id) = !(a.id == b.id) := rfl
  have n2 : (at_ != to_) = !(at_ == to_) := rfl
  clear z2 z3
  cases he : (e == 0) <;> cases d1 : (a.id == b.id) <;> cases d2 : (at_ == to_)
  all_goals
    rw [he] at c4 c5
    rw [he, d1, d2] at q1 q2
    rw [d1] at n1
    rw [d2] at n2
    simp only [Bool.true_and, Bool.false_and, Bool.false_eq_true, forall_const, false_implies, Bool.not_true, Bool.not_false, reduceCtorEq] at q1 q2 n1 n2
    refine q2i (by kernel_rfl) (by simp only [go_sem, *]) (by simp only [go_sem, *]) Tryz.func7 Tryz.results7 rfl (by simp [Tryz.ntmps7]) (by kernel_rfl) ?_
    repeat' (first | (show q0x ..; first | refine q0d ?_ | refine q0p rfl ?_ | refine q0z rfl rfl ?_) | (show q1d ..; first | refine q0n rfl rfl ?_ | refine q0h rfl ?_) | (show goOn ..; first | refine q0s ?_ | refine q0v ?_ | refine q0w ?_) | (show q1g ..; refine q0i ?_) | (show q1j ..; (refine q0u (r := ?_) ?_ ?_; rotate_left 1; (focus first | exact b1 | exact b2 | exact b3 | exact c1 | exact c2 | exact c3 | exact c4 | exact c5))) | (show wGo ..; first | refine q1o ?_ | refine q1u ?_ | refine q1q ?_ | refine q1s ?_ | refine gw_u ?_ | refine q1p (fun _ => ?_) (fun _ => ?_) | refine q1t (fun _ => ?_) (fun _ => ?_) | refine q1r (fun _ => ?_) (fun _ => ?_) | refine q1v (fun _ => ?_) (fun _ => ?_)) | (show dr ..; first | refine q1k ?_ | refine dr_n rfl ?_ | refine q3b rfl rfl ?_) | (show drGo ..; first | refine q2h rfl ?_ | refine q1n rfl ?_) | (show drOn ..; first | refine q1l ?_ | refine q1z ?_ | refine q1y ?_) | (show q1w ..; refine q1e ?_) | (show q2l ..; (refine q1m (r := ?_) ?_ ?_; rotate_left 1; (focus first | exact b1 | exact b2 | exact b3 | exact c1 | exact c2 | exact c3 | exact c4 | exact c5))) | (refine And.intro (by kernel_rfl : q1x _ = true) ?_) | (show q0g ..; first | refine q0q ?_ | refine q0c ?_ | refine q1h (by kernel_rfl) ?_ | refine q0r ?_ | refine q0f ?_ | refine q0t ?_ | refine q1b ?_ | refine q0k ?_) | (show q0y ..; first | refine cd_t ?_ | refine cd_f ?_ | refine cd_n (fun _ => ?_) (fun _ => ?_) | refine cd_b (fun _ => ?_) (fun _ => ?_)) | refine q0a ?_ | refine q0m ?_ | refine q0l ?_ | refine q1a ?_ | refine q0j ?_ | refine q1c ?_ | refine bl_pass rfl ?_ | refine q1f ?_ | refine bl_pan ?_ | (show retQ ..; first | refine q0o ?_ | refine q0b ?_) | refine q0e ?_)
    refine q3l (S := Nat) (fun n => w.objects.length - n) (fun n => n ≤ w.objects.length) (fun n => [(6, .ptr 0 0), (13, .ptr 3 0), (15, .ptr 4 0), (141, .sl (x.objects.map Ob.enc)), (142, .int .i64 w.objects.length), (143, .int .i64 n)]) (fun _ => [(0, .box (Wd.enc w)), (3, .box (Wd.enc x)), (4, .box (Ob.enc a))]) (fun _ => 6) 0 (Nat.zero_le _) (by (refine q2q ?_ ?_ <;> repeat' (first | exact q2a | exact q2c | refine q1i (by (try simp only [go_sem, *]); try rfl) (by simp only [go_sem, *]) ?_ | refine q2d (by (try simp only [go_sem, *]); try rfl) (by omega) (by simp only [go_sem, *]) ?_ | refine q2b (by (try simp only [go_sem, *]); try rfl) (by omega) (by simp only [go_sem, *]) ?_))) ?_
    intro n hn'
    rcases Nat.lt_or_ge n w.objects.length with hlt | hge
    · obtain ⟨y, z, hy, hz, hne, heq⟩ := body n hlt
      have h0 := q3k hlt
      have h4 := q3f n (by omega)
      have ly := hsl y (sidx hy)
      have nn : (z.id != a.id) = !(z.id == a.id) := rfl
      cases dz : (z.id == a.id) with
      | false =>
        obtain rfl := hne dz
        have s1 := one_self ly
        rw [dz] at nn
        clear heq hne body hsl q1 q2
        repeat' (first | (show q0x ..; first | refine q0d ?_ | refine q0p rfl ?_ | refine q0z rfl rfl ?_) | (show q1d ..; first | refine q0n rfl rfl ?_ | refine q0h rfl ?_) | (show goOn ..; first | refine q0s ?_ | refine q0v ?_ | refine q0w ?_) | (show q1g ..; refine q0i ?_) | (show q1j ..; (refine q0u (r := ?_) ?_ ?_; rotate_left 1; (focus exact s1))) | (show wGo ..; first | refine q1o ?_ | refine q1u ?_ | refine q1q ?_ | refine q1s ?_ | refine gw_u ?_ | refine q1p (fun _ => ?_) (fun _ => ?_) | refine q1t (fun _ => ?_) (fun _ => ?_) | refine q1r (fun _ => ?_) (fun _ => ?_) | refine q1v (fun _ => ?_) (fun _ => ?_)) | (show dr ..; first | refine q1k ?_ | refine dr_n rfl ?_ | refine q3b rfl rfl ?_) | (show drGo ..; first | refine q2h rfl ?_ | refine q1n rfl ?_) | (show drOn ..; first | refine q1l ?_ | refine q1z ?_ | refine q1y ?_) | (show q1w ..; refine q1e ?_) | (show q2l ..; (refine q1m (r := ?_) ?_ ?_; rotate_left 1; (focus exact s1))) | (refine And.intro (by kernel_rfl : q1x _ = true) ?_) | (show q0g ..; first | refine q0q ?_ | refine q0c ?_ | refine q1h (by kernel_rfl) ?_ | refine q0r ?_ | refine q0f ?_ | refine q0t ?_ | refine q1b ?_ | refine q0k ?_) | (show q0y ..; first | refine cd_t ?_ | refine cd_f ?_ | refine cd_n (fun _ => ?_) (fun _ => ?_) | refine cd_b (fun _ => ?_) (fun _ => ?_)) | refine q0a ?_ | refine q0m ?_ | refine q0l ?_ | refine q1a ?_ | refine q0j ?_ | refine q1c ?_ | refine bl_pass rfl ?_ | refine q1f ?_ | refine bl_pan ?_ | (show retQ ..; first | refine q0o ?_ | refine q0b ?_) | refine q0e ?_)
        all_goals exact again (n + 1) hlt (show w.objects.length - (n + 1) < w.objects.length - n by omega) (by (refine q2q ?_ ?_ <;> repeat' (first | exact q2a | exact q2c | refine q1i (by (try simp only [go_sem, *]); try rfl) (by simp only [go_sem, *]) ?_ | refine q2d (by (try simp only [go_sem, *]); try rfl) (by omega) (by simp only [go_sem, *]) ?_ | refine q2b (by (try simp only [go_sem, *]); try rfl) (by omega) (by simp only [go_sem, *]) ?_)))
      | true =>
        have hl := heq dz
        rw [dz] at nn
        have hq : ((z.data.length : Int) != (a.data.length : Int)) = false := by simp [bne, hl]
        clear heq hne body hsl q1 q2 hl
        repeat' (first | (show q0x ..; first | refine q0d ?_ | refine q0p rfl ?_ | refine q0z rfl rfl ?_) | (show q1d ..; first | refine q0n rfl rfl ?_ | refine q0h rfl ?_) | (show goOn ..; first | refine q0s ?_ | refine q0v ?_ | refine q0w ?_) | (show q1g ..; refine q0i ?_) | (show wGo ..; first | refine q1o ?_ | refine q1u ?_ | refine q1q ?_ | refine q1s ?_ | refine gw_u ?_ | refine q1p (fun _ => ?_) (fun _ => ?_) | refine q1t (fun _ => ?_) (fun _ => ?_) | refine q1r (fun _ => ?_) (fun _ => ?_) | refine q1v (fun _ => ?_) (fun _ => ?_)) | (show dr ..; first | refine q1k ?_ | refine dr_n rfl ?_ | refine q3b rfl rfl ?_) | (show drGo ..; first | refine q2h rfl ?_ | refine q1n rfl ?_) | (show drOn ..; first | refine q1l ?_ | refine q1z ?_ | refine q1y ?_) | (show q1w ..; refine q1e ?_) | (refine And.intro (by kernel_rfl : q1x _ = true) ?_) | (show q0g ..; first | refine q0q ?_ | refine q0c ?_ | refine q1h (by kernel_rfl) ?_ | refine q0r ?_ | refine q0f ?_ | refine q0t ?_ | refine q1b ?_ | refine q0k ?_) | (show q0y ..; first | refine cd_t ?_ | refine cd_f ?_ | refine cd_n (fun _ => ?_) (fun _ => ?_) | refine cd_b (fun _ => ?_) (fun _ => ?_)) | refine q0a ?_ | refine q0m ?_ | refine q0l ?_ | refine q1a ?_ | refine q0j ?_ | refine q1c ?_ | refine bl_pass rfl ?_ | refine q1f ?_ | refine bl_pan ?_ | (show retQ ..; first | refine q0o ?_ | refine q0b ?_) | refine q0e ?_)
        all_goals exact again (n + 1) hlt (show w.objects.length - (n + 1) < w.objects.length - n by omega) (by (refine q2q ?_ ?_ <;> repeat' (first | exact q2a | exact q2c | refine q1i (by (try simp only [go_sem, *]); try rfl) (by simp only [go_sem, *]) ?_ | refine q2d (by (try simp only [go_sem, *]); try rfl) (by omega) (by simp only [go_sem, *]) ?_ | refine q2b (by (try simp only [go_sem, *]); try rfl) (by omega) (by simp only [go_sem, *]) ?_)))
    · have h0 := q3a hge
      clear body hsl q1 q2
      repeat' (first | (show q0x ..; first | refine q0d ?_ | refine q0p rfl ?_ | refine q0z rfl rfl ?_) | (show q1d ..; first | refine q0n rfl rfl ?_ | refine q0h rfl ?_) | (show goOn ..; first | refine q0s ?_ | refine q0v ?_ | refine q0w ?_) | (show q1g ..; refine q0i ?_) | (show q1j ..; (refine q0u (r := ?_) ?_ ?_; rotate_left 1; (focus exact hk))) | (show wGo ..; first | refine q1o ?_ | refine q1u ?_ | refine q1q ?_ | refine q1s ?_ | refine gw_u ?_ | refine q1p (fun _ => ?_) (fun _ => ?_) | refine q1t (fun _ => ?_) (fun _ => ?_) | refine q1r (fun _ => ?_) (fun _ => ?_) | refine q1v (fun _ => ?_) (fun _ => ?_)) | (show dr ..; first | refine q1k ?_ | refine dr_n rfl ?_ | refine q3b rfl rfl ?_) | (show drGo ..; first | refine q2h rfl ?_ | refine q1n rfl ?_) | (show drOn ..; first | refine q1l ?_ | refine q1z ?_ | refine q1y ?_) | (show q1w ..; refine q1e ?_) | (show q2l ..; (refine q1m (r := ?_) ?_ ?_; rotate_left 1; (focus exact hk))) | (refine And.intro (by kernel_rfl : q1x _ = true) ?_) | (show q0g ..; first | refine q0q ?_ | refine q0c ?_ | refine q1h (by kernel_rfl) ?_ | refine q0r ?_ | refine q0f ?_ | refine q0t ?_ | refine q1b ?_ | refine q0k ?_) | (show q0y ..; first | refine cd_t ?_ | refine cd_f ?_ | refine cd_n (fun _ => ?_) (fun _ => ?_) | refine cd_b (fun _ => ?_) (fun _ => ?_)) | refine q0a ?_ | refine q0m ?_ | refine q0l ?_ | refine q1a ?_ | refine q0j ?_ | refine q1c ?_ | refine bl_pass rfl ?_ | refine q1f ?_ | refine bl_pan ?_ | (show retQ ..; first | refine q0o ?_ | refine q0b ?_) | refine q0e ?_)
      all_goals rfl
end Go.Proofs.YteibeoipnjhicaaGreat
