import Derived.Test.YteibeoipnjhicaaGreatRz9
namespace Go.Proofs.YteibeoipnjhicaaGreat.kdev
open Go Go.RowKit Go.Proofs.YteibeoipnjhicaaGreat
set_option linter.unusedVariables false
set_option linter.unusedSimpArgs false
set_option maxHeartbeats 16000000
set_option maxRecDepth 100000
def briefAt (l : List In) (k : Nat) : Bool := match l[k]? with
  | some x => !decide ((x.words.length : Int) > 100)
  | none => true
def briefI (l : List In) : Bool := !decide ((l.length : Int) > 10) && allB l.length (briefAt l)
theorem briefI_of {l : List In} (h : briefI l = true) : l.length ≤ 10 ∧ ∀ x ∈ l, x.words.length ≤ 100 := by
  unfold briefI at h
  simp only [Bool.and_eq_true, Bool.not_eq_true', decide_eq_false_iff_not] at h
  refine ⟨by omega, fun x hx => ?_⟩
  obtain ⟨k, hk⟩ := List.getElem?_of_mem hx
  have := allB_iff.1 h.2 k (q5f hk)
  unfold briefAt at this
  rw [hk] at this
  simp only [Bool.not_eq_true', decide_eq_false_iff_not] at this
  omega
def arg2 (x y : Int) : Nat → Int := fun i => if i = 0 then x else if i = 1 then y else 0
def arg3 (x y z : Int) : Nat → Int := fun i => if i = 0 then x else if i = 1 then y else if i = 2 then z else 0
@[go_sem] theorem args_build2 (x y : Int) : q4l Tryz.prog 27 [(0, .int .u64 x), (1, .int .u64 y)] = some (.agg (args (arg2 x y))) := by kernel_rfl
@[go_sem] theorem args_build3 (x y z : Int) : q4l Tryz.prog 27 [(0, .int .u64 x), (1, .int .u64 y), (2, .int .u64 z)] = some (.agg (args (arg3 x y z))) := by kernel_rfl
theorem out_ins {w : Wd} (g : Good w) {o : Ob} (ho : o ∈ w.objects) (hk : (o.kind == 6) = true) {v : Int} (hl : o.out.length < 1024) : Good (w.ins (outO o v)) := by
  have hs := q6s (q5g (q4p g.fit) ho) hk
  exact dev_good g ho hk o.inn (o.out ++ [v]) hs.1 (by simp; omega)
/-- What a call comes to: the world as it was, or one device of it is another one. -/
theorem kdev_is {w : Wd} (g : Good w) (t : Ob) (n : Int) (a : Nat → Int) : (q4y w t n a).1 = w ∨ (((devR w t a).2 == 0) = true ∧ ∃ i u, i.length ≤ 64 ∧ u.length ≤ 1024 ∧ (q4y w t n a).1 = w.ins { (devR w t a).1 with inn := i, out := u }) := by
  have hdev : ((devR w t a).2 == 0) = true → (devR w t a).1.inn.length ≤ 64 ∧ (devR w t a).1.out.length ≤ 1024 := fun h => by
    obtain ⟨h1, h2, _⟩ := q6g (w := w) (t := t) (r := ⟨a 0, a 1⟩) (k := 6) g.fit rfl h
    exact q6s (q5g (q4p g.fit) h1) h2
  unfold q4y outR inR
  generalize devR w t a = D at hdev ⊢
  obtain ⟨o, e⟩ := D
  simp only at hdev ⊢
  split
  · split
    · rename_i he
      split
      · rename_i hl
        exact .inr ⟨he, o.inn, o.out ++ [a 2], (hdev he).1, by have := of_decide_eq_true hl; simp; omega, rfl⟩
      · exact .inl rfl
    · exact .inl rfl
  · split
    · split
      · rename_i he
        cases hi : o.inn with
        | nil => exact .inl rfl
        | cons v l => exact .inr ⟨he, l, o.out, by have := (hdev he).1; rw [hi] at this; simp at this; omega, (hdev he).2, rfl⟩
      · exact .inl rfl
    · exact .inl rfl
theorem kdev_good {w : Wd} (g : Good w) (t : Ob) (n : Int) (a : Nat → Int) : Good (q4y w t n a).1 := by
  rcases kdev_is g t n a with h | ⟨he, i, u, hi, hu, h⟩
  · rw [h]; exact g
  · rw [h]
    obtain ⟨h1, h2, _⟩ := q6g (w := w) (t := t) (r := ⟨a 0, a 1⟩) (k := 6) g.fit rfl he
    exact dev_good g h1 h2 i u hi hu
theorem ins_at {w : Wd} (g : Good w) {o p : Ob} (ho : o ∈ w.objects) (hp : hd p = hd o) {i : Nat} {old : Ob} (hx : w.objects[i]? = some old) : (w.ins p).objects[i]? = some (one o p old) := by
  rw [(q9j (q4p g.fit) ho hp).objs, List.getElem?_map, hx]; rfl
theorem kdev_obj {w : Wd} (g : Good w) (t : Ob) (n : Int) (a : Nat → Int) {i : Nat} {old : Ob} (hx : w.objects[i]? = some old) :
    ∃ o, (q4y w t n a).1.objects[i]? = some o ∧ (o = old ∨ ((old.kind == 6) = true ∧ old.id = a 1 ∧ chgR t old = true)) := by
  rcases kdev_is g t n a with h | ⟨he, j, u, hi, hu, h⟩
  · rw [h]; exact ⟨old, hx, .inl rfl⟩
  · rw [h]
    obtain ⟨h1, h2, h3⟩ := q6g (w := w) (t := t) (r := ⟨a 0, a 1⟩) (k := 6) g.fit rfl he
    refine ⟨_, ins_at g (o := (devR w t a).1) (p := { (devR w t a).1 with inn := j, out := u }) h1 rfl hx, ?_⟩
    by_cases e : old = (devR w t a).1
    · refine .inr ?_
      rw [e]
      refine ⟨h2, ?_, h3⟩
      have hid : ((q5u w t ⟨a 0, a 1⟩).2 == 0) = true ∧ (devR w t a).1 = (q5u w t ⟨a 0, a 1⟩).1 := by
        have he' := he
        unfold devR q4b at he' ⊢
        split at he'
        · rename_i hs
          rw [if_pos hs]
          split at he'
          · rename_i hc
            rw [if_pos hc]
            obtain ⟨_, _, h5⟩ := see_in g.fit hs
            refine ⟨?_, h5⟩
            unfold seeR at hs
            split at hs
            · assumption
            · rename_i h6; exact absurd hs h6
          · cases he'
        · rename_i hs; exact absurd he' hs
      rw [hid.2]
      have hl := hid.1
      unfold q5u at hl ⊢
      split at hl
      · rename_i h6
        rw [if_pos h6]
        split at hl
        · rename_i h7
          rw [if_pos h7]
          obtain ⟨e1, e2, _⟩ := dir_found h6
          rw [e1] at h7
          obtain ⟨x, hx, hxi⟩ := List.any_eq_true.1 h7
          have : x = a 1 := by simpa using hxi
          subst this
          exact (find_id (links_found g.fit (find_id e2).2 hx)).1
        · cases hl
      · rename_i h6; exact absurd hl h6
    · exact .inl (one_ne e)
theorem feed_obj : ∀ (l : List In) {w : Wd} (g : Good w) {i : Nat} {old : Ob} (hx : w.objects[i]? = some old), ∃ q, (q5p w l).objects[i]? = some { old with inn := q }
  | [], w, g, i, old, hx => ⟨old.inn, hx⟩
  | x :: l, w, g, i, old, hx => by
    have key : ∃ q, (q9m w x).objects[i]? = some { old with inn := q } := by
      unfold q9m
      split
      · rename_i hk
        obtain ⟨_, hm⟩ := q9y hk
        have := ins_at g hm (fed_hd (q2p w x.dev).1 x.words) hx
        by_cases e : old = (q2p w x.dev).1
        · refine ⟨((q2p w x.dev).1.inn ++ x.words).take 64, ?_⟩
          rw [this, e, q8n]; rfl
        · exact ⟨old.inn, by rw [this, one_ne e]⟩
      · exact ⟨old.inn, hx⟩
    obtain ⟨q, hq⟩ := key
    obtain ⟨q', hq'⟩ := feed_obj l (feed1_good g x) hq
    exact ⟨q', hq'⟩
theorem kdev_len {w : Wd} (g : Good w) (t : Ob) (n : Int) (a : Nat → Int) : (q4y w t n a).1.objects.length = w.objects.length := by
  rcases kdev_is g t n a with h | ⟨he, j, u, hi, hu, h⟩
  · rw [h]
  · rw [h]
    obtain ⟨h1, _⟩ := q6g (w := w) (t := t) (r := ⟨a 0, a 1⟩) (k := 6) g.fit rfl he
    rw [(q9j (q4p g.fit) h1 (p := { (devR w t a).1 with inn := j, out := u }) rfl).objs, List.length_map]
theorem feed_len : ∀ (l : List In) {w : Wd} (g : Good w), (q5p w l).objects.length = w.objects.length
  | [], w, g => rfl
  | x :: l, w, g => by
    have key : (q9m w x).objects.length = w.objects.length := by
      unfold q9m
      split
      · rename_i hk
        obtain ⟨_, hm⟩ := q9y hk
        rw [(q9j (q4p g.fit) hm (fed_hd (q2p w x.dev).1 x.words)).objs, List.length_map]
      · rfl
    have := feed_len l (feed1_good g x)
    unfold q5p at this ⊢
    rw [List.foldl_cons, this, key]
attribute [go_sem] beq_self_eq_true bne_self_eq_false
def exT : Ob := { Ob.zero with id := 1152921504606846977, kind := 4, quota := 1 }
def exD (i : List Int) : Ob := { Ob.zero with id := 1152921504606846978, kind := 6, quota := 1, inn := i }
def exC : Ob := { Ob.zero with id := 1152921504606846976, kind := 2, quota := 9, links := [1152921504606846977, 1152921504606846978] }
def exW (i : List Int) : Wd := { Wd.zero with key := 3, root := 1152921504606846976, objects := [exC, exT, exD i] }
theorem exW_few (i : List Int) : FewW (exW i) := ⟨by simp [exW], fun x hx => by simp only [exW, List.mem_cons, List.not_mem_nil, or_false] at hx; rcases hx with rfl | rfl | rfl <;> simp [exC, exT, exD, Ob.zero]⟩
theorem exW_L (i : List Int) (hi : i.length ≤ 64) : (exW i).L := by
  refine ⟨by simp [exW], fun x hx => ?_⟩
  simp only [exW, List.mem_cons, List.not_mem_nil, or_false] at hx
  have hz : ([] : List Int).length ≤ 9223372036854775807 := by decide
  have hp : ([] : List Pr).length ≤ 9223372036854775807 := by decide
  have hm : ([] : List Mp).length ≤ 9223372036854775807 := by decide
  rcases hx with rfl | rfl | rfl
  · exact ⟨⟨hp, by decide, hz, hm, Th.zeroL, Gt.zeroL, hz, hz⟩, by decide⟩
  · exact ⟨⟨hp, hz, hz, hm, Th.zeroL, Gt.zeroL, hz, hz⟩, by decide⟩
  · exact ⟨⟨hp, hz, hz, hm, Th.zeroL, Gt.zeroL, by show i.length ≤ _; omega, hz⟩, Nat.zero_le _⟩
theorem exW_fit (i : List Int) (h : q5h (exW i) = true) : fitW (exW i) = true := by
  have h1 : (q2p (exW i) (exW i).root).2 = true := by rfl
  have h2 : allB (exW i).objects.length (q6v (exW i)) = true := by rfl
  have hz : ∀ n, hasZ 3 Th.zero.span n = false := fun n => by
    unfold hasZ
    have : (decide (numF 3 n ≥ Th.zero.span.lo) && decide (numF 3 n < Th.zero.span.hi)) = false := by
      show (decide (numF 3 n ≥ 0) && decide (numF 3 n < 0)) = false
      rcases Int.lt_or_le (numF 3 n) 0 with h | h
      · rw [decide_eq_false (by omega : ¬ numF 3 n ≥ 0)]; rfl
      · rw [decide_eq_false (by omega : ¬ numF 3 n < 0), Bool.and_false]
    rw [this]; simp
  have h3 : q6j (exW i) = true := by
    unfold q6j
    refine q3v fun j hj => ?_
    have hj' : j < 3 := hj
    rcases (by omega : j = 0 ∨ j = 1 ∨ j = 2) with rfl | rfl | rfl
    · rfl
    · show (if (exT.kind == 4) = true then allB 3 (q9b (exW i) exT 1) else true) = true
      rw [if_pos (show (exT.kind == 4) = true from rfl)]
      refine q3v fun k hk => ?_
      have hzz : hasZ (exW i).key exT.thread.span = hasZ 3 Th.zero.span := rfl
      rcases (by omega : k = 0 ∨ k = 1 ∨ k = 2) with rfl | rfl | rfl
      · show (!(hasZ (exW i).key exT.thread.span exC.id || _)) = true
        rw [hzz, hz]; rfl
      · show (!(hasZ (exW i).key exT.thread.span exT.id || _)) = true
        rw [hzz, hz]; rfl
      · show (!(hasZ (exW i).key exT.thread.span (exD i).id || _)) = true
        rw [hzz, hz]; rfl
    · rfl
  unfold fitW
  rw [h, h1, h2, h3]; rfl
theorem exW_good0 : Good (exW []) := ⟨exW_L [] (by decide), exW_few _, exW_fit _ (by decide +kernel)⟩
theorem exW_good2 : Good (exW [5, 6]) := ⟨exW_L [5, 6] (by decide), exW_few _, exW_fit _ (by decide +kernel)⟩
theorem exW_good1 : Good (exW [6]) := ⟨exW_L [6] (by decide), exW_few _, exW_fit _ (by decide +kernel)⟩
@[go_sem] theorem ex24_b1 (id kind quota : Int) (x y : Int) : q4l Tryz.prog 58 [(0, .int .u64 id), (1, .int .i64 kind), (3, .int .i64 quota), (5, .sl [u64 x, u64 y])] = some (.agg (Ob.enc ⟨id, kind, [], quota, false, [x, y], [], [], Th.zero, Gt.zero, [], []⟩)) := by kernel_rfl
@[go_sem] theorem ex24_b2 (x y : Int) : q3u Tryz.prog 41 2 [(0, .int .u64 x), (1, .int .u64 y)] = some (.sl [u64 x, u64 y]) := by kernel_rfl
@[go_sem] theorem ex24_b3 (x y z : Ob) : q3u Tryz.prog 23 3 [(0, .agg (Ob.enc x)), (1, .agg (Ob.enc y)), (2, .agg (Ob.enc z))] = some (.sl [Ob.enc x, Ob.enc y, Ob.enc z]) := by kernel_rfl
@[go_sem] theorem ex24_b4 (k r : Int) (x y z : Ob) : q4l Tryz.prog 25 [(1, .int .u64 k), (2, .int .u64 r), (3, .sl [Ob.enc x, Ob.enc y, Ob.enc z])] = some (.agg (Wd.enc ⟨0, k, r, [x, y, z]⟩)) := by kernel_rfl
@[go_sem] theorem ex24_b5 (d x y : Int) : q4l Tryz.prog 62 [(0, .int .u64 d), (1, .sl [u64 x, u64 y])] = some (.agg (In.enc ⟨d, [x, y]⟩)) := by kernel_rfl
attribute [local irreducible] q1a dr q0i Ex.then Ex.inBlock retQ q1r q3f q3e Pure CSat evOp q2r rdOf upd hset strip sp0 cut envL q3h q4c Keep BdL evBs q3n q3z
theorem law24_brief (l : List In) (hl : l.length ≤ maxLen) : Pure Tryz.prog 21 [.sl (l.map In.enc)] (.bool (briefI l)) := by
  cases h1 : decide ((l.length : Int) > 10) with
  | true =>
    refine q2y (by kernel_rfl) (by simp only [go_sem, *]) (by simp only [go_sem, *]) Tryz.func21 Tryz.results21 rfl (by simp [Tryz.ntmps21]) (by kernel_rfl) ?_
    repeat' (first | (show q1a ..; first | refine q0d ?_ | refine q0p rfl ?_) | (show q1f ..; refine q0n rfl rfl ?_) | (show goOn ..; first | refine q0s ?_ | refine q0u ?_ | refine q0y ?_) | (show q1k ..; refine q0j ?_) | (show q0i ..; first | refine q0q ?_ | refine q0c ?_ | refine q0r ?_ | refine q0f ?_ | refine q0k ?_ | refine q0w ?_ | refine q0t ?_) | (show q1d ..; first | refine cd_t ?_ | refine cd_f ?_ | refine cd_n (fun _ => ?_) (fun _ => ?_) | refine cd_b (fun _ => ?_) (fun _ => ?_)) | refine q0a ?_ | refine q0m ?_ | refine q0l ?_ | refine q0v ?_ | refine q0g ?_ | refine q0x ?_ | refine bl_pass rfl ?_ | refine q1g ?_ | refine q1e ?_ | (show retQ ..; first | refine q0o ?_ | refine q0b ?_) | refine q0e ?_)
    all_goals (refine q2w ?_; unfold briefI; rw [h1]; rfl)
  | false =>
  have h1' := of_decide_eq_false h1
  have fin : ∀ b, allB l.length (briefAt l) = b → b = briefI l := fun b hb => by unfold briefI; rw [h1, hb]; rfl
  refine q2y (by kernel_rfl) (by simp only [go_sem, *]) (by simp only [go_sem, *]) Tryz.func21 Tryz.results21 rfl (by simp [Tryz.ntmps21]) (by kernel_rfl) ?_
  repeat' (first | (show q1a ..; first | refine q0d ?_ | refine q0p rfl ?_) | (show q1f ..; refine q0n rfl rfl ?_) | (show goOn ..; first | refine q0s ?_ | refine q0u ?_ | refine q0y ?_) | (show q1k ..; refine q0j ?_) | (show q0i ..; first | refine q0q ?_ | refine q0c ?_ | refine q0r ?_ | refine q0f ?_ | refine q0k ?_ | refine q0w ?_ | refine q0t ?_) | (show q1d ..; first | refine cd_t ?_ | refine cd_f ?_ | refine cd_n (fun _ => ?_) (fun _ => ?_) | refine cd_b (fun _ => ?_) (fun _ => ?_)) | refine q0a ?_ | refine q0m ?_ | refine q0l ?_ | refine q0v ?_ | refine q0g ?_ | refine q0x ?_ | refine bl_pass rfl ?_ | refine q1g ?_ | refine q1e ?_ | (show retQ ..; first | refine q0o ?_ | refine q0b ?_) | refine q0e ?_)
  refine q3g (S := Nat) (fun n => l.length - n) (fun n => n ≤ l.length ∧ ∀ j, j < n → briefAt l j = true) (fun n => [(8, .sl (l.map In.enc)), (9, .int .i64 l.length), (10, .int .i64 n)]) (fun _ => []) (fun _ => 0) 0 ⟨Nat.zero_le _, fun j hj => absurd hj (Nat.not_lt_zero j)⟩ (by (refine q2q ?_ ?_ <;> repeat' (first | exact q2d | exact q2f | refine q1n (by (try simp only [go_sem, *]); try rfl) (by simp only [go_sem, *]) ?_ | refine q2g (by (try simp only [go_sem, *]); try rfl) (by omega) (by simp only [go_sem, *]) ?_ | refine q2e (by (try simp only [go_sem, *]); try rfl) (by omega) (by simp only [go_sem, *]) ?_))) ?_
  rintro n ⟨hn, hs⟩
  rcases Nat.lt_or_ge n l.length with hlt | hge
  · obtain ⟨x, hx⟩ := q3j hlt
    have h0 := q3o hlt
    have h4 := q3d n (by omega)
    have e : briefAt l n = !decide ((x.words.length : Int) > 100) := by unfold briefAt; rw [hx]
    cases h5 : decide ((x.words.length : Int) > 100) with
    | true =>
      repeat' (first | (show q1a ..; first | refine q0d ?_ | refine q0p rfl ?_) | (show q1f ..; refine q0n rfl rfl ?_) | (show goOn ..; first | refine q0s ?_ | refine q0u ?_ | refine q0y ?_) | (show q1k ..; refine q0j ?_) | (show q0i ..; first | refine q0q ?_ | refine q0c ?_ | refine q0r ?_ | refine q0f ?_ | refine q0k ?_ | refine q0w ?_ | refine q0t ?_) | (show q1d ..; first | refine cd_t ?_ | refine cd_f ?_ | refine cd_n (fun _ => ?_) (fun _ => ?_) | refine cd_b (fun _ => ?_) (fun _ => ?_)) | refine q0a ?_ | refine q0m ?_ | refine q0l ?_ | refine q0v ?_ | refine q0g ?_ | refine q0x ?_ | refine bl_pass rfl ?_ | refine q1g ?_ | refine q1e ?_ | (show retQ ..; first | refine q0o ?_ | refine q0b ?_) | refine q0e ?_)
      all_goals (refine q2w (fin _ ?_); rw [q3s hlt (by rw [e, h5]; rfl)])
    | false =>
      repeat' (first | (show q1a ..; first | refine q0d ?_ | refine q0p rfl ?_) | (show q1f ..; refine q0n rfl rfl ?_) | (show goOn ..; first | refine q0s ?_ | refine q0u ?_ | refine q0y ?_) | (show q1k ..; refine q0j ?_) | (show q0i ..; first | refine q0q ?_ | refine q0c ?_ | refine q0r ?_ | refine q0f ?_ | refine q0k ?_ | refine q0w ?_ | refine q0t ?_) | (show q1d ..; first | refine cd_t ?_ | refine cd_f ?_ | refine cd_n (fun _ => ?_) (fun _ => ?_) | refine cd_b (fun _ => ?_) (fun _ => ?_)) | refine q0a ?_ | refine q0m ?_ | refine q0l ?_ | refine q0v ?_ | refine q0g ?_ | refine q0x ?_ | refine bl_pass rfl ?_ | refine q1g ?_ | refine q1e ?_ | (show retQ ..; first | refine q0o ?_ | refine q0b ?_) | refine q0e ?_)
      all_goals (refine again (n + 1) ⟨hlt, q5t hs (by rw [e, h5]; rfl)⟩ (show l.length - (n + 1) < l.length - n by omega) (by (refine q2q ?_ ?_ <;> repeat' (first | exact q2d | exact q2f | refine q1n (by (try simp only [go_sem, *]); try rfl) (by simp only [go_sem, *]) ?_ | refine q2g (by (try simp only [go_sem, *]); try rfl) (by omega) (by simp only [go_sem, *]) ?_ | refine q2e (by (try simp only [go_sem, *]); try rfl) (by omega) (by simp only [go_sem, *]) ?_))))
  · have h0 := q2z hge
    have hfin := fin true (q3v fun j hj => hs j (by omega))
    repeat' (first | (show q1a ..; first | refine q0d ?_ | refine q0p rfl ?_) | (show q1f ..; refine q0n rfl rfl ?_) | (show goOn ..; first | refine q0s ?_ | refine q0u ?_ | refine q0y ?_) | (show q1k ..; refine q0j ?_) | (show q0i ..; first | refine q0q ?_ | refine q0c ?_ | refine q0r ?_ | refine q0f ?_ | refine q0k ?_ | refine q0w ?_ | refine q0t ?_) | (show q1d ..; first | refine cd_t ?_ | refine cd_f ?_ | refine cd_n (fun _ => ?_) (fun _ => ?_) | refine cd_b (fun _ => ?_) (fun _ => ?_)) | refine q0a ?_ | refine q0m ?_ | refine q0l ?_ | refine q0v ?_ | refine q0g ?_ | refine q0x ?_ | refine bl_pass rfl ?_ | refine q1g ?_ | refine q1e ?_ | (show retQ ..; first | refine q0o ?_ | refine q0b ?_) | refine q0e ?_)
    all_goals first | exact q2w hfin | (rw [← hfin]) | rfl
theorem q9k : Pure Tryz.prog 22 [] (.bool true) := by
  have h1 := q9u (exW []) [⟨1152921504606846978, [5, 6]⟩] exW_good0 (by decide) (by intro x hx; simp only [List.mem_singleton] at hx; subst hx; decide)
  have e1 : q5p (exW []) [⟨1152921504606846978, [5, 6]⟩] = exW [5, 6] := by rfl
  rw [e1] at h1
  have h2 := q8c (exW [5, 6]) 1152921504606846977 42 (arg2 1152921504606846976 1152921504606846978) exW_good2.few exW_good2.fit
  have e2 : q4y (exW [5, 6]) (q2p (exW [5, 6]) 1152921504606846977).1 42 (arg2 1152921504606846976 1152921504606846978) = (exW [6], 5, 0, true) := by rfl
  rw [e2] at h2
  have h3 := q8c (exW [6]) 1152921504606846977 42 (arg2 1152921504606846976 1152921504606846978) exW_good1.few exW_good1.fit
  have e3 : q4y (exW [6]) (q2p (exW [6]) 1152921504606846977).1 42 (arg2 1152921504606846976 1152921504606846978) = (exW [], 6, 0, true) := by rfl
  rw [e3] at h3
  have h4 := q8c (exW []) 1152921504606846977 42 (arg2 1152921504606846976 1152921504606846978) exW_good0.few exW_good0.fit
  have e4 : q4y (exW []) (q2p (exW []) 1152921504606846977).1 42 (arg2 1152921504606846976 1152921504606846978) = (exW [], 0, 9, true) := by rfl
  rw [e4] at h4
  clear e1 e2 e3 e4
  unfold exW exC exT exD at h1 h2 h3 h4
  refine q2y (by kernel_rfl) (by simp only [go_sem, *]) (by simp only [go_sem, *]) Tryz.func22 Tryz.results22 rfl (by simp [Tryz.ntmps22]) (by kernel_rfl) ?_
  repeat' (first | (show q1a ..; first | refine q0d ?_ | refine q0p rfl ?_ | refine q1c rfl rfl ?_) | (show q1f ..; first | refine q0n rfl rfl ?_ | refine q0h rfl ?_) | (show goOn ..; first | refine q0s ?_ | refine q0u ?_ | refine q0y ?_) | (show q1k ..; refine q0j ?_) | (show q1u ..; (refine q0z (r := ?_) ?_ ?_; rotate_left 1; (focus first | exact h1 | exact h2 | exact h3 | exact h4))) | (show wGo ..; first | refine q1v ?_ | refine q2b ?_ | refine q1x ?_ | refine q1z ?_ | refine gw_u ?_ | refine q1w (fun _ => ?_) (fun _ => ?_) | refine q2a (fun _ => ?_) (fun _ => ?_) | refine q1y (fun _ => ?_) (fun _ => ?_) | refine q2c (fun _ => ?_) (fun _ => ?_)) | (show q0i ..; first | refine q0q ?_ | refine q0c ?_ | refine q0r ?_ | refine q0f ?_) | refine q0a ?_ | refine q0m ?_ | refine q0l ?_ | (show retQ ..; first | refine q0o ?_ | refine q0b ?_) | refine q0e ?_)
  all_goals rfl
end Go.Proofs.YteibeoipnjhicaaGreat.kdev
