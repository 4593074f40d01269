import Derived.Test.YteibeoipnjhicaaGreatEe3
import Derived.Test.YteibeoipnjhicaaGreatLpo
namespace Go.Proofs.YteibeoipnjhicaaGreat
open Go Go.RowKit
set_option linter.unusedVariables false
set_option linter.unusedSimpArgs false
set_option maxHeartbeats 16000000
set_option maxRecDepth 100000
def fewAt (l : List Ob) (k : Nat) : Bool := match l[k]? with
  | some x => !(decide ((x.label.length : Int) > 20) || (decide ((x.links.length : Int) > 70) || (decide ((x.data.length : Int) > 300) || decide ((x.maps.length : Int) > 20))))
  | none => true
def obsR (t o : List Pr) : Bool := leqR o (t.map upPr)
def q7q (t o : Ob) : Bool := obsR t.label (q5e o)
def chgR (t o : Ob) : Bool := q7q t o && leqR t.label o.label
def dirR (w : Wd) (t : Ob) (id : Int) (write : Bool) : Ob × Int :=
  if ((q2p w id).2 && (((q2p w id).1.kind == 2) && q7q t (q2p w id).1)) = true then
    if (!write || chgR t (q2p w id).1) = true then ((q2p w id).1, 0) else (Ob.zero, 2)
  else (Ob.zero, 1)
def q5u (w : Wd) (t : Ob) (r : Rf) : Ob × Int :=
  if ((dirR w t r.cont false).2 == 0) = true then
    if (dirR w t r.cont false).1.links.any (· == r.id) = true then ((q2p w r.id).1, 0) else (Ob.zero, 1)
  else (Ob.zero, (dirR w t r.cont false).2)
def seeR (w : Wd) (t : Ob) (r : Rf) (kind : Int) : Ob × Int :=
  if ((q5u w t r).2 == 0) = true then
    if ((kind == 0) || ((q5u w t r).1.kind == kind)) = true then
      if q7q t (q5u w t r).1 = true then ((q5u w t r).1, 0) else (Ob.zero, 2)
    else (Ob.zero, 3)
  else (Ob.zero, (q5u w t r).2)
def q4b (w : Wd) (t : Ob) (r : Rf) (kind : Int) : Ob × Int :=
  if ((seeR w t r kind).2 == 0) = true then
    if chgR t (seeR w t r kind).1 = true then ((seeR w t r kind).1, 0) else (Ob.zero, 2)
  else (Ob.zero, (seeR w t r kind).2)
theorem findR_few2 {w : Wd} (hf : FewW w) (id : Int) : (q2p w id).1.links.length ≤ 70 := by
  unfold q2p
  split
  · rename_i x hx; exact (hf.ob x (List.mem_of_find?_eq_some hx)).2.1
  · exact Nat.zero_le _
theorem dirR_few {w : Wd} (hf : FewW w) (t : Ob) (id : Int) (b : Bool) : (dirR w t id b).1.label.length ≤ 20 ∧ (dirR w t id b).1.links.length ≤ 70 := by
  unfold dirR
  split
  · split
    · exact ⟨q7f hf id, findR_few2 hf id⟩
    · exact ⟨Nat.zero_le _, Nat.zero_le _⟩
  · exact ⟨Nat.zero_le _, Nat.zero_le _⟩
theorem lookR_few {w : Wd} (hf : FewW w) (t : Ob) (r : Rf) : (q5u w t r).1.label.length ≤ 20 := by
  unfold q5u
  split
  · split
    · exact q7f hf _
    · exact Nat.zero_le _
  · exact Nat.zero_le _
theorem seeR_few {w : Wd} (hf : FewW w) (t : Ob) (r : Rf) (k : Int) : (seeR w t r k).1.label.length ≤ 20 := by
  unfold seeR
  split
  · split
    · split
      · exact lookR_few hf _ _
      · exact Nat.zero_le _
    · exact Nat.zero_le _
  · exact Nat.zero_le _
attribute [local irreducible] q1a dr q0i Ex.then Ex.inBlock retQ q1r q3f q3e Pure CSat evOp q2r rdOf upd hset strip sp0 cut envL q3h q4c Keep BdL evBs q3n q3z
theorem r3_observe (t o : List Pr) (ht : t.length ≤ 1000) (ho : o.length ≤ 1000) : Pure Tryz.prog 43 [.sl (t.map Pr.enc), .sl (o.map Pr.enc)] (.bool (obsR t o)) := by
  have h1 := r2_raise t (by omega)
  have h2 := r2_leq o (t.map upPr) (by omega) (by simp; omega)
  refine q2y (by kernel_rfl) (by simp only [go_sem, *]) (by simp only [go_sem, *]) Tryz.func43 Tryz.results43 rfl (by simp [Tryz.ntmps43]) (by kernel_rfl) ?_
  repeat' (first | (show q1a ..; first | refine q0d ?_ | refine q0p rfl ?_) | (show q1f ..; first | refine q0n rfl rfl ?_ | refine q0h rfl ?_) | (show goOn ..; first | refine q0s ?_ | refine q0u ?_ | refine q0y ?_) | (show q1k ..; refine q0j ?_) | (show q1u ..; (refine q0z (r := ?_) ?_ ?_; rotate_left 1; (focus first | exact h1 | exact h2))) | (show q0i ..; first | refine q0q ?_ | refine q0c ?_ | refine q0r ?_ | refine q0f ?_) | refine q0a ?_ | refine q0m ?_ | refine q0l ?_ | (show retQ ..; first | refine q0o ?_ | refine q0b ?_) | refine q0e ?_)
  all_goals rfl
theorem r17_sees (t o : Ob) (ht : t.label.length ≤ 20) (ho : o.label.length ≤ 20) : Pure Tryz.prog 135 [.agg (Ob.enc t), .agg (Ob.enc o)] (.bool (q7q t o)) := by
  have h1 := r13_shown o (by omega)
  have h2 := r3_observe t.label (q5e o) (by omega) (by rw [shown_len]; omega)
  refine q2y (by kernel_rfl) (by simp only [go_sem, *]) (by simp only [go_sem, *]) Tryz.func135 Tryz.results135 rfl (by simp [Tryz.ntmps135]) (by kernel_rfl) ?_
  repeat' (first | (show q1a ..; first | refine q0d ?_ | refine q0p rfl ?_) | (show q1f ..; first | refine q0n rfl rfl ?_ | refine q0h rfl ?_) | (show goOn ..; first | refine q0s ?_ | refine q0u ?_ | refine q0y ?_) | (show q1k ..; refine q0j ?_) | (show q1u ..; (refine q0z (r := ?_) ?_ ?_; rotate_left 1; (focus first | exact h1 | exact h2))) | (show dr ..; first | refine q1l ?_ | refine dr_n rfl ?_) | (show drGo ..; first | refine q2i rfl ?_ | refine q1j rfl ?_) | (show drOn ..; first | refine q1m ?_ | refine q1q ?_ | refine q1p ?_) | (show q1o ..; refine q1b ?_) | (show q2h ..; (refine q1i (r := ?_) ?_ ?_; rotate_left 1; (focus first | exact h1 | exact h2))) | (refine And.intro (by kernel_rfl : q1r _ = true) ?_) | (show q0i ..; first | refine q0q ?_ | refine q0c ?_ | refine q1h (by kernel_rfl) ?_ | refine q0r ?_ | refine q0f ?_) | refine q0a ?_ | refine q0m ?_ | refine q0l ?_ | (show retQ ..; first | refine q0o ?_ | refine q0b ?_) | refine q0e ?_)
  all_goals rfl
theorem r17_changes (t o : Ob) (ht : t.label.length ≤ 20) (ho : o.label.length ≤ 20) : Pure Tryz.prog 116 [.agg (Ob.enc t), .agg (Ob.enc o)] (.bool (chgR t o)) := by
  have h1 := r17_sees t o ht ho
  have h2 := r2_leq t.label o.label (by omega) (by omega)
  unfold chgR
  generalize q7q t o = b at h1
  refine q2y (by kernel_rfl) (by simp only [go_sem, *]) (by simp only [go_sem, *]) Tryz.func116 Tryz.results116 rfl (by simp [Tryz.ntmps116]) (by kernel_rfl) ?_
  repeat' (first | (show q1a ..; first | refine q0d ?_ | refine q0p rfl ?_ | refine q1c rfl rfl ?_) | (show q1f ..; first | refine q0n rfl rfl ?_ | refine q0h rfl ?_) | (show goOn ..; first | refine q0s ?_ | refine q0u ?_ | refine q0y ?_) | (show q1k ..; refine q0j ?_) | (show q1u ..; (refine q0z (r := ?_) ?_ ?_; rotate_left 1; (focus first | exact h1 | exact h2))) | (show wGo ..; first | refine q1v ?_ | refine q2b ?_ | refine q1x ?_ | refine q1z ?_ | refine gw_u ?_ | refine q1w (fun _ => ?_) (fun _ => ?_) | refine q2a (fun _ => ?_) (fun _ => ?_) | refine q1y (fun _ => ?_) (fun _ => ?_) | refine q2c (fun _ => ?_) (fun _ => ?_)) | (show q0i ..; first | refine q0q ?_ | refine q0c ?_ | refine q0r ?_ | refine q0f ?_) | refine q0a ?_ | refine q0m ?_ | refine q0l ?_ | (show retQ ..; first | refine q0o ?_ | refine q0b ?_) | refine q0e ?_)
  all_goals (refine q2w ?_; simp [*])
theorem r17_dir (w : Wd) (t : Ob) (id : Int) (write : Bool) (hf : FewW w) (ht : t.label.length ≤ 20) : Pure Tryz.prog 181 [.agg (Wd.enc w), .agg (Ob.enc t), .int .u64 id, .bool write] (.tup [.agg (Ob.enc (dirR w t id write).1), .int .i64 (dirR w t id write).2]) := by
  have hn := hf.n
  have h1 := q5l w id (by omega)
  have hl := q7f hf id
  unfold dirR
  generalize q2p w id = F at h1 hl
  obtain ⟨d, ok⟩ := F
  simp only at h1 hl
  have h2 := r17_sees t d ht hl
  have h3 := r17_changes t d ht hl
  generalize q7q t d = b2 at h2
  generalize chgR t d = b3 at h3
  simp only
  cases ok <;> cases hk : (d.kind == 2) <;> cases b2 <;> cases write <;> cases b3
  all_goals
    have hkn : (d.kind != 2) = !(d.kind == 2) := rfl
    rw [hk] at hkn
    simp only [Bool.not_true, Bool.not_false, Bool.false_and, Bool.true_and, Bool.and_true, Bool.and_false, Bool.or_true, Bool.or_false, Bool.true_or, Bool.false_or, Bool.false_eq_true, if_true, if_false] at hkn ⊢
    refine q2y (by kernel_rfl) (by simp only [go_sem, *]) (by simp only [go_sem, *]) Tryz.func181 Tryz.results181 rfl (by simp [Tryz.ntmps181]) (by kernel_rfl) ?_
    repeat' (first | (show q1a ..; first | refine q0d ?_ | refine q0p rfl ?_ | refine q1c rfl rfl ?_) | (show q1f ..; first | refine q0n rfl rfl ?_ | refine q0h rfl ?_) | (show goOn ..; first | refine q0s ?_ | refine q0u ?_ | refine q0y ?_) | (show q1k ..; refine q0j ?_) | (show q1u ..; (refine q0z (r := ?_) ?_ ?_; rotate_left 1; (focus first | exact h1 | exact h2 | exact h3))) | (show wGo ..; first | refine q1v ?_ | refine q2b ?_ | refine q1x ?_ | refine q1z ?_ | refine gw_u ?_ | refine q1w (fun _ => ?_) (fun _ => ?_) | refine q2a (fun _ => ?_) (fun _ => ?_) | refine q1y (fun _ => ?_) (fun _ => ?_) | refine q2c (fun _ => ?_) (fun _ => ?_)) | (show q0i ..; first | refine q0q ?_ | refine q0c ?_ | refine q0r ?_ | refine q0f ?_ | refine q0t ?_) | (show q1d ..; first | refine cd_t ?_ | refine cd_f ?_ | refine cd_n (fun _ => ?_) (fun _ => ?_) | refine cd_b (fun _ => ?_) (fun _ => ?_)) | refine q0a ?_ | refine q0m ?_ | refine q0l ?_ | (show retQ ..; first | refine q0o ?_ | refine q0b ?_) | refine q0e ?_)
    all_goals rfl
theorem r17_look (w : Wd) (t : Ob) (r : Rf) (hf : FewW w) (ht : t.label.length ≤ 20) : Pure Tryz.prog 134 [.agg (Wd.enc w), .agg (Ob.enc t), .agg (Rf.enc r)] (.tup [.agg (Ob.enc (q5u w t r).1), .int .i64 (q5u w t r).2]) := by
  have hn := hf.n
  have h1 := r17_dir w t r.cont false hf ht
  have h2 := q5l w r.id (by omega)
  have hl := (dirR_few hf t r.cont false).2
  unfold q5u
  generalize dirR w t r.cont false = D at h1 hl
  obtain ⟨d, e⟩ := D
  simp only at h1 hl ⊢
  cases he : (e == 0) with
  | false =>
    have he2 : (e != 0) = true := by simp [bne, he]
    simp only [Bool.false_eq_true, if_false]
    refine q2y (by kernel_rfl) (by simp only [go_sem, *]) (by simp only [go_sem, *]) Tryz.func134 Tryz.results134 rfl (by simp [Tryz.ntmps134]) (by kernel_rfl) ?_
    repeat' (first | (show q1a ..; first | refine q0d ?_ | refine q0p rfl ?_) | (show q1f ..; first | refine q0n rfl rfl ?_ | refine q0h rfl ?_) | (show goOn ..; first | refine q0s ?_ | refine q0u ?_ | refine q0y ?_) | (show q1k ..; refine q0j ?_) | (show q1u ..; (refine q0z (r := ?_) ?_ ?_; rotate_left 1; (focus first | exact h1 | exact h2))) | (show dr ..; first | refine q1l ?_ | refine dr_n rfl ?_) | (show drGo ..; first | refine q2i rfl ?_ | refine q1j rfl ?_) | (show drOn ..; first | refine q1m ?_ | refine q1q ?_ | refine q1p ?_) | (show q1o ..; refine q1b ?_) | (show q2h ..; (refine q1i (r := ?_) ?_ ?_; rotate_left 1; (focus first | exact h1 | exact h2))) | (refine And.intro (by kernel_rfl : q1r _ = true) ?_) | (show q0i ..; first | refine q0q ?_ | refine q0c ?_ | refine q1h (by kernel_rfl) ?_ | refine q0r ?_ | refine q0f ?_ | refine q0k ?_ | refine q0w ?_ | refine q0t ?_) | (show q1d ..; first | refine cd_t ?_ | refine cd_f ?_ | refine cd_n (fun _ => ?_) (fun _ => ?_) | refine cd_b (fun _ => ?_) (fun _ => ?_)) | refine q0a ?_ | refine q0m ?_ | refine q0l ?_ | refine q0v ?_ | refine q0g ?_ | refine q0x ?_ | refine bl_pass rfl ?_ | refine q1g ?_ | refine q1e ?_ | (show retQ ..; first | refine q0o ?_ | refine q0b ?_) | refine q0e ?_)
    all_goals rfl
  | true =>
    have he2 : (e != 0) = false := by simp [bne, he]
    simp only [if_true]
    obtain ⟨Rr, hR⟩ : ∃ Rr, Rr = (if (d.links.any fun x => x == r.id) = true then ((q2p w r.id).1, (0 : Int)) else (Ob.zero, 1)) := ⟨_, rfl⟩
    rw [← hR]
    refine q2y (by kernel_rfl) (by simp only [go_sem, *]) (by simp only [go_sem, *]) Tryz.func134 Tryz.results134 rfl (by simp [Tryz.ntmps134]) (by kernel_rfl) ?_
    repeat' (first | (show q1a ..; first | refine q0d ?_ | refine q0p rfl ?_) | (show q1f ..; first | refine q0n rfl rfl ?_ | refine q0h rfl ?_) | (show goOn ..; first | refine q0s ?_ | refine q0u ?_ | refine q0y ?_) | (show q1k ..; refine q0j ?_) | (show q1u ..; (refine q0z (r := ?_) ?_ ?_; rotate_left 1; (focus exact h1))) | (show dr ..; first | refine q1l ?_ | refine dr_n rfl ?_) | (show drGo ..; first | refine q2i rfl ?_ | refine q1j rfl ?_) | (show drOn ..; first | refine q1m ?_ | refine q1q ?_ | refine q1p ?_) | (show q1o ..; refine q1b ?_) | (show q2h ..; (refine q1i (r := ?_) ?_ ?_; rotate_left 1; (focus exact h1))) | (refine And.intro (by kernel_rfl : q1r _ = true) ?_) | (show q0i ..; first | refine q0q ?_ | refine q0c ?_ | refine q1h (by kernel_rfl) ?_ | refine q0r ?_ | refine q0f ?_ | refine q0k ?_ | refine q0w ?_ | refine q0t ?_) | (show q1d ..; first | refine cd_t ?_ | refine cd_f ?_ | refine cd_n (fun _ => ?_) (fun _ => ?_) | refine cd_b (fun _ => ?_) (fun _ => ?_)) | refine q0a ?_ | refine q0m ?_ | refine q0l ?_ | refine q0v ?_ | refine q0g ?_ | refine q0x ?_ | refine bl_pass rfl ?_ | refine q1g ?_ | refine q1e ?_ | (show retQ ..; first | refine q0o ?_ | refine q0b ?_) | refine q0e ?_)
    refine q3g (S := Nat) (fun k => d.links.length - k) (fun k => k ≤ d.links.length ∧ ∀ j, j < k → ∀ y, d.links[j]? = some y → (y == r.id) = false) (fun k => [(3, .ptr 0 0), (5, .ptr 2 0), (6, .ptr 3 0), (8, .ptr 4 0), (10, .int .i64 k)]) (fun _ => [(0, .box (Wd.enc w)), (2, .box (Rf.enc r)), (3, .box (Ob.enc Ob.zero)), (4, .box (Ob.enc d))]) (fun _ => 5) 0 ⟨Nat.zero_le _, fun j hj => absurd hj (Nat.not_lt_zero j)⟩ (by (refine q2q ?_ ?_ <;> repeat' (first | exact q2d | exact q2f | refine q1n (by (try simp only [go_sem, *]); try rfl) (by simp only [go_sem, *]) ?_ | refine q2g (by (try simp only [go_sem, *]); try rfl) (by omega) (by simp only [go_sem, *]) ?_ | refine q2e (by (try simp only [go_sem, *]); try rfl) (by omega) (by simp only [go_sem, *]) ?_))) ?_
    rintro k ⟨hk, hs⟩
    rcases Nat.lt_or_ge k d.links.length with hlt | hge
    · obtain ⟨x, hx⟩ := q3j hlt
      have h0 := q3o hlt
      have h4 := q3d k (by omega)
      cases hc : (x == r.id) with
      | true =>
        rw [if_pos (List.any_eq_true.2 ⟨x, sidx hx, hc⟩)] at hR
        subst hR
        clear hs
        repeat' (first | (show q1a ..; first | refine q0d ?_ | refine q0p rfl ?_) | (show q1f ..; first | refine q0n rfl rfl ?_ | refine q0h rfl ?_) | (show goOn ..; first | refine q0s ?_ | refine q0u ?_ | refine q0y ?_) | (show q1k ..; refine q0j ?_) | (show q1u ..; (refine q0z (r := ?_) ?_ ?_; rotate_left 1; (focus exact h2))) | (show dr ..; first | refine q1l ?_ | refine dr_n rfl ?_) | (show drGo ..; first | refine q2i rfl ?_ | refine q1j rfl ?_) | (show drOn ..; first | refine q1m ?_ | refine q1q ?_ | refine q1p ?_) | (show q1o ..; refine q1b ?_) | (show q2h ..; (refine q1i (r := ?_) ?_ ?_; rotate_left 1; (focus exact h2))) | (refine And.intro (by kernel_rfl : q1r _ = true) ?_) | (show q0i ..; first | refine q0q ?_ | refine q0c ?_ | refine q1h (by kernel_rfl) ?_ | refine q0r ?_ | refine q0f ?_ | refine q0k ?_ | refine q0w ?_ | refine q0t ?_) | (show q1d ..; first | refine cd_t ?_ | refine cd_f ?_ | refine cd_n (fun _ => ?_) (fun _ => ?_) | refine cd_b (fun _ => ?_) (fun _ => ?_)) | refine q0a ?_ | refine q0m ?_ | refine q0l ?_ | refine q0v ?_ | refine q0g ?_ | refine q0x ?_ | refine bl_pass rfl ?_ | refine q1g ?_ | refine q1e ?_ | (show retQ ..; first | refine q0o ?_ | refine q0b ?_) | refine q0e ?_)
        all_goals rfl
      | false =>
        have hs' := none_to hx hs hc
        clear hs hR
        repeat' (first | (show q1a ..; first | refine q0d ?_ | refine q0p rfl ?_) | (show q1f ..; first | refine q0n rfl rfl ?_ | refine q0h rfl ?_) | (show goOn ..; first | refine q0s ?_ | refine q0u ?_ | refine q0y ?_) | (show q1k ..; refine q0j ?_) | (show q1u ..; (refine q0z (r := ?_) ?_ ?_; rotate_left 1; (focus exact h2))) | (show dr ..; first | refine q1l ?_ | refine dr_n rfl ?_) | (show drGo ..; first | refine q2i rfl ?_ | refine q1j rfl ?_) | (show drOn ..; first | refine q1m ?_ | refine q1q ?_ | refine q1p ?_) | (show q1o ..; refine q1b ?_) | (show q2h ..; (refine q1i (r := ?_) ?_ ?_; rotate_left 1; (focus exact h2))) | (refine And.intro (by kernel_rfl : q1r _ = true) ?_) | (show q0i ..; first | refine q0q ?_ | refine q0c ?_ | refine q1h (by kernel_rfl) ?_ | refine q0r ?_ | refine q0f ?_ | refine q0k ?_ | refine q0w ?_ | refine q0t ?_) | (show q1d ..; first | refine cd_t ?_ | refine cd_f ?_ | refine cd_n (fun _ => ?_) (fun _ => ?_) | refine cd_b (fun _ => ?_) (fun _ => ?_)) | refine q0a ?_ | refine q0m ?_ | refine q0l ?_ | refine q0v ?_ | refine q0g ?_ | refine q0x ?_ | refine bl_pass rfl ?_ | refine q1g ?_ | refine q1e ?_ | (show retQ ..; first | refine q0o ?_ | refine q0b ?_) | refine q0e ?_)
        all_goals exact again (k + 1) ⟨hlt, hs'⟩ (show d.links.length - (k + 1) < d.links.length - k by omega) (by (refine q2q ?_ ?_ <;> repeat' (first | exact q2d | exact q2f | refine q1n (by (try simp only [go_sem, *]); try rfl) (by simp only [go_sem, *]) ?_ | refine q2g (by (try simp only [go_sem, *]); try rfl) (by omega) (by simp only [go_sem, *]) ?_ | refine q2e (by (try simp only [go_sem, *]); try rfl) (by omega) (by simp only [go_sem, *]) ?_)))
    · have h0 := q2z hge
      rw [if_neg (by
        rw [Bool.not_eq_true, List.any_eq_false]
        intro x hx
        obtain ⟨j, hj⟩ := List.getElem?_of_mem hx
        rw [hs j (by have := q5f hj; omega) x hj]; simp)] at hR
      subst hR
      clear hs
      repeat' (first | (show q1a ..; first | refine q0d ?_ | refine q0p rfl ?_) | (show q1f ..; first | refine q0n rfl rfl ?_ | refine q0h rfl ?_) | (show goOn ..; first | refine q0s ?_ | refine q0u ?_ | refine q0y ?_) | (show q1k ..; refine q0j ?_) | (show dr ..; first | refine q1l ?_ | refine dr_n rfl ?_) | (show drGo ..; first | refine q2i rfl ?_ | refine q1j rfl ?_) | (show drOn ..; first | refine q1m ?_ | refine q1q ?_ | refine q1p ?_) | (show q1o ..; refine q1b ?_) | (refine And.intro (by kernel_rfl : q1r _ = true) ?_) | (show q0i ..; first | refine q0q ?_ | refine q0c ?_ | refine q1h (by kernel_rfl) ?_ | refine q0r ?_ | refine q0f ?_ | refine q0k ?_ | refine q0w ?_ | refine q0t ?_) | (show q1d ..; first | refine cd_t ?_ | refine cd_f ?_ | refine cd_n (fun _ => ?_) (fun _ => ?_) | refine cd_b (fun _ => ?_) (fun _ => ?_)) | refine q0a ?_ | refine q0m ?_ | refine q0l ?_ | refine q0v ?_ | refine q0g ?_ | refine q0x ?_ | refine bl_pass rfl ?_ | refine q1g ?_ | refine q1e ?_ | (show retQ ..; first | refine q0o ?_ | refine q0b ?_) | refine q0e ?_)
      all_goals rfl
theorem r17_see (w : Wd) (t : Ob) (r : Rf) (kind : Int) (hf : FewW w) (ht : t.label.length ≤ 20) : Pure Tryz.prog 81 [.agg (Wd.enc w), .agg (Ob.enc t), .agg (Rf.enc r), .int .i64 kind] (.tup [.agg (Ob.enc (seeR w t r kind).1), .int .i64 (seeR w t r kind).2]) := by
  have h1 := r17_look w t r hf ht
  have hl := lookR_few hf t r
  unfold seeR
  generalize q5u w t r = D at h1 hl
  obtain ⟨o, e⟩ := D
  simp only at h1 hl ⊢
  have h2 := r17_sees t o ht hl
  generalize q7q t o = b2 at h2
  cases he : (e == 0) <;> cases hk : (kind == 0) <;> cases hk2 : (o.kind == kind) <;> cases b2
  all_goals
    have he2 : (e != 0) = !(e == 0) := rfl
    have hkn : (kind != 0) = !(kind == 0) := rfl
    have hkm : (o.kind != kind) = !(o.kind == kind) := rfl
    rw [he] at he2
    rw [hk] at hkn
    rw [hk2] at hkm
    simp only [Bool.not_true, Bool.not_false, Bool.or_true, Bool.or_false, Bool.true_or, Bool.false_or, Bool.false_eq_true, if_true, if_false] at he2 hkn hkm ⊢
    refine q2y (by kernel_rfl) (by simp only [go_sem, *]) (by simp only [go_sem, *]) Tryz.func81 Tryz.results81 rfl (by simp [Tryz.ntmps81]) (by kernel_rfl) ?_
    repeat' (first | (show q1a ..; first | refine q0d ?_ | refine q0p rfl ?_ | refine q1c rfl rfl ?_) | (show q1f ..; first | refine q0n rfl rfl ?_ | refine q0h rfl ?_) | (show goOn ..; first | refine q0s ?_ | refine q0u ?_ | refine q0y ?_) | (show q1k ..; refine q0j ?_) | (show q1u ..; (refine q0z (r := ?_) ?_ ?_; rotate_left 1; (focus first | exact h1 | exact h2))) | (show wGo ..; first | refine q1v ?_ | refine q2b ?_ | refine q1x ?_ | refine q1z ?_ | refine gw_u ?_ | refine q1w (fun _ => ?_) (fun _ => ?_) | refine q2a (fun _ => ?_) (fun _ => ?_) | refine q1y (fun _ => ?_) (fun _ => ?_) | refine q2c (fun _ => ?_) (fun _ => ?_)) | (show q0i ..; first | refine q0q ?_ | refine q0c ?_ | refine q0r ?_ | refine q0f ?_ | refine q0t ?_) | (show q1d ..; first | refine cd_t ?_ | refine cd_f ?_ | refine cd_n (fun _ => ?_) (fun _ => ?_) | refine cd_b (fun _ => ?_) (fun _ => ?_)) | refine q0a ?_ | refine q0m ?_ | refine q0l ?_ | (show retQ ..; first | refine q0o ?_ | refine q0b ?_) | refine q0e ?_)
    all_goals rfl
theorem r17_change (w : Wd) (t : Ob) (r : Rf) (kind : Int) (hf : FewW w) (ht : t.label.length ≤ 20) : Pure Tryz.prog 66 [.agg (Wd.enc w), .agg (Ob.enc t), .agg (Rf.enc r), .int .i64 kind] (.tup [.agg (Ob.enc (q4b w t r kind).1), .int .i64 (q4b w t r kind).2]) := by
  have h1 := r17_see w t r kind hf ht
  have hl := seeR_few hf t r kind
  unfold q4b
  generalize seeR w t r kind = D at h1 hl
  obtain ⟨o, e⟩ := D
  simp only at h1 hl ⊢
  have h2 := r17_changes t o ht hl
  generalize chgR t o = b2 at h2
  cases he : (e == 0) <;> cases b2
  all_goals
    have he2 : (e != 0) = !(e == 0) := rfl
    rw [he] at he2
    simp only [Bool.not_true, Bool.not_false, Bool.or_true, Bool.or_false, Bool.true_or, Bool.false_or, Bool.false_eq_true, if_true, if_false] at he2 ⊢
    refine q2y (by kernel_rfl) (by simp only [go_sem, *]) (by simp only [go_sem, *]) Tryz.func66 Tryz.results66 rfl (by simp [Tryz.ntmps66]) (by kernel_rfl) ?_
    repeat' (first | (show q1a ..; first | refine q0d ?_ | refine q0p rfl ?_) | (show q1f ..; first | refine q0n rfl rfl ?_ | refine q0h rfl ?_) | (show goOn ..; first | refine q0s ?_ | refine q0u ?_ | refine q0y ?_) | (show q1k ..; refine q0j ?_) | (show q1u ..; (refine q0z (r := ?_) ?_ ?_; rotate_left 1; (focus first | exact h1 | exact h2))) | (show q0i ..; first | refine q0q ?_ | refine q0c ?_ | refine q0r ?_ | refine q0f ?_ | refine q0t ?_) | (show q1d ..; first | refine cd_t ?_ | refine cd_f ?_ | refine cd_n (fun _ => ?_) (fun _ => ?_) | refine cd_b (fun _ => ?_) (fun _ => ?_)) | refine q0a ?_ | refine q0m ?_ | refine q0l ?_ | (show retQ ..; first | refine q0o ?_ | refine q0b ?_) | refine q0e ?_)
    all_goals rfl
end Go.Proofs.YteibeoipnjhicaaGreat
