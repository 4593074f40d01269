import Derived.Test.YtoibbedpaaeclaaGreatRz8
import Derived.Test.YtoibbedpaaeclaaGreatRz2
import Derived.Recover
section
namespace Go.Proofs.YtoibbedpaaeclaaGreat
open Go Go.RowKit
set_option linter.unusedVariables false
set_option linter.unusedSimpArgs false
set_option maxHeartbeats 16000000
set_option maxRecDepth 100000
def fewAt (l : List Ob) (k : Nat) : Bool := match l[k]? with
  | some x => !(decide ((x.label.length : Int) > 20) || (decide ((x.links.length : Int) > 70) || (decide ((x.data.length : Int) > 300) || decide ((x.maps.length : Int) > 20))))
  | none => true
def obsR (t o : List Pr) : Bool := leqR o (t.map upPr)
def x0j (t o : Ob) : Bool := obsR t.label (q5u o)
def chgR (t o : Ob) : Bool := x0j t o && leqR t.label o.label
def dirR (w : Wd) (t : Ob) (id : Int) (write : Bool) : Ob × Int :=
  if ((q2p w id).2 && (((q2p w id).1.kind == 2) && x0j t (q2p w id).1)) = true then
    if (!write || chgR t (q2p w id).1) = true then ((q2p w id).1, 0) else (Ob.zero, 2)
  else (Ob.zero, 1)
def q7g (w : Wd) (t : Ob) (r : Rf) : Ob × Int :=
  if ((dirR w t r.cont false).2 == 0) = true then
    if (dirR w t r.cont false).1.links.any (· == r.id) = true then ((q2p w r.id).1, 0) else (Ob.zero, 1)
  else (Ob.zero, (dirR w t r.cont false).2)
def seeR (w : Wd) (t : Ob) (r : Rf) (kind : Int) : Ob × Int :=
  if ((q7g w t r).2 == 0) = true then
    if ((kind == 0) || ((q7g w t r).1.kind == kind)) = true then
      if x0j t (q7g w t r).1 = true then ((q7g w t r).1, 0) else (Ob.zero, 2)
    else (Ob.zero, 3)
  else (Ob.zero, (q7g w t r).2)
theorem findR_few2 {w : Wd} (hf : FewW w) (id : Int) : (q2p w id).1.links.length ≤ 70 := by
  unfold q2p
  split
  · rename_i x hx; exact (hf.ob x (List.mem_of_find?_eq_some hx)).2.1
  · exact Nat.zero_le _
theorem dirR_few {w : Wd} (hf : FewW w) (t : Ob) (id : Int) (b : Bool) : (dirR w t id b).1.label.length ≤ 20 ∧ (dirR w t id b).1.links.length ≤ 70 := by
  unfold dirR
  split
  · split
    · exact ⟨q6o hf id, findR_few2 hf id⟩
    · exact ⟨Nat.zero_le _, Nat.zero_le _⟩
  · exact ⟨Nat.zero_le _, Nat.zero_le _⟩
theorem lookR_few {w : Wd} (hf : FewW w) (t : Ob) (r : Rf) : (q7g w t r).1.label.length ≤ 20 := by
  unfold q7g
  split
  · split
    · exact q6o hf _
    · exact Nat.zero_le _
  · exact Nat.zero_le _
attribute [local irreducible] q0i dr q0d Ex.then Ex.inBlock retQ q1l q2j q2g Pure CSat evOp q1i rdOf upd hset strip sp0 cut envL q1g q3q Keep BdL evBs q2s q3c
theorem r3_observe (t o : List Pr) (ht : t.length ≤ 1000) (ho : o.length ≤ 1000) : Pure Tryz.prog 179 [.sl (t.map Pr.enc), .sl (o.map Pr.enc)] (.bool (obsR t o)) := by
  have h1 := x0m t (by omega)
  have h2 := x0n o (t.map upPr) (by omega) (by simp; omega)
  refine q2d (by kernel_rfl) (by simp only [go_sem, *]) (by simp only [go_sem, *]) Tryz.func179 Tryz.results179 rfl (by simp [Tryz.ntmps179]) (by kernel_rfl) ?_
  repeat' (first | (show q0i ..; first | refine q0c ?_ | refine q0e rfl ?_) | (show q0k ..; first | refine q0f rfl rfl ?_ | refine q0m rfl ?_) | (show goOn ..; refine q0g ?_) | (show q1j ..; (refine q0u (r := ?_) ?_ ?_; rotate_left 1; (focus first | exact h1 | exact h2))) | (show q0d ..; first | refine q0h ?_ | refine q0b ?_ | refine q0r ?_) | refine q0a ?_ | (show retQ ..; refine q0s ?_) | refine q0l ?_)
  all_goals rfl
theorem r17_sees (t o : Ob) (ht : t.label.length ≤ 20) (ho : o.label.length ≤ 20) : Pure Tryz.prog 124 [.agg (Ob.enc t), .agg (Ob.enc o)] (.bool (x0j t o)) := by
  have h1 := r13_shown o (by omega)
  have h2 := r3_observe t.label (q5u o) (by omega) (by rw [shown_len]; omega)
  refine q2d (by kernel_rfl) (by simp only [go_sem, *]) (by simp only [go_sem, *]) Tryz.func124 Tryz.results124 rfl (by simp [Tryz.ntmps124]) (by kernel_rfl) ?_
  repeat' (first | (show q0i ..; first | refine q0c ?_ | refine q0e rfl ?_) | (show q0k ..; refine q0f rfl rfl ?_) | (show goOn ..; first | refine q0g ?_ | refine q1d ?_) | (show dr ..; first | refine q1y ?_ | refine dr_n rfl ?_) | (show drGo ..; first | refine q3b rfl ?_ | refine q2l rfl ?_) | (show drOn ..; refine q1z ?_) | (show q2h ..; (refine q1f (r := ?_) ?_ ?_; rotate_left 1; (focus first | exact h1 | exact h2))) | (refine And.intro (by kernel_rfl : q1l _ = true) ?_) | (show q0d ..; first | refine q0h ?_ | refine q0b ?_ | refine q1k (by kernel_rfl) ?_ | refine q0r ?_) | refine q0a ?_ | (show retQ ..; refine q0s ?_) | refine q0l ?_)
  all_goals rfl
theorem r17_changes (t o : Ob) (ht : t.label.length ≤ 20) (ho : o.label.length ≤ 20) : Pure Tryz.prog 211 [.agg (Ob.enc t), .agg (Ob.enc o)] (.bool (chgR t o)) := by
  have h1 := r17_sees t o ht ho
  have h2 := x0n t.label o.label (by omega) (by omega)
  unfold chgR
  generalize x0j t o = b at h1
  refine q2d (by kernel_rfl) (by simp only [go_sem, *]) (by simp only [go_sem, *]) Tryz.func211 Tryz.results211 rfl (by simp [Tryz.ntmps211]) (by kernel_rfl) ?_
  repeat' (first | (show q0i ..; first | refine q0c ?_ | refine q0e rfl ?_ | refine q1b rfl rfl ?_) | (show q0k ..; first | refine q0f rfl rfl ?_ | refine q0m rfl ?_) | (show goOn ..; first | refine q0g ?_ | refine q1d ?_) | (show q1j ..; (refine q0u (r := ?_) ?_ ?_; rotate_left 1; (focus first | exact h1 | exact h2))) | (show wGo ..; first | refine q3n ?_ | refine q3x ?_ | refine q8d (fun _ => ?_) (fun _ => ?_)) | (show q0d ..; first | refine q0h ?_ | refine q0b ?_ | refine q0r ?_) | refine q0a ?_ | (show retQ ..; refine q0s ?_) | refine q0l ?_)
  all_goals (refine q1o ?_; simp [*])
theorem r17_dir (w : Wd) (t : Ob) (id : Int) (write : Bool) (hf : FewW w) (ht : t.label.length ≤ 20) : Pure Tryz.prog 178 [.agg (Wd.enc w), .agg (Ob.enc t), .int .u64 id, .bool write] (.tup [.agg (Ob.enc (dirR w t id write).1), .int .i64 (dirR w t id write).2]) := by
  have hn := hf.n
  have h1 := q5y w id (by omega)
  have hl := q6o hf id
  unfold dirR
  generalize q2p w id = F at h1 hl
  obtain ⟨d, ok⟩ := F
  simp only at h1 hl
  have h2 := r17_sees t d ht hl
  have h3 := r17_changes t d ht hl
  generalize x0j t d = b2 at h2
  generalize chgR t d = b3 at h3
  simp only
  cases ok <;> cases hk : (d.kind == 2) <;> cases b2 <;> cases write <;> cases b3
  all_goals
    have hkn : (d.kind != 2) = !(d.kind == 2) := rfl
    rw [hk] at hkn
    simp only [Bool.not_true, Bool.not_false, Bool.false_and, Bool.true_and, Bool.and_true, Bool.and_false, Bool.or_true, Bool.or_false, Bool.true_or, Bool.false_or, Bool.false_eq_true, if_true, if_false] at hkn ⊢
    refine q2d (by kernel_rfl) (by simp only [go_sem, *]) (by simp only [go_sem, *]) Tryz.func178 Tryz.results178 rfl (by simp [Tryz.ntmps178]) (by kernel_rfl) ?_
    repeat' (first | (show q0i ..; first | refine q0c ?_ | refine q0e rfl ?_ | refine q1b rfl rfl ?_) | (show q0k ..; first | refine q0f rfl rfl ?_ | refine q0m rfl ?_) | (show goOn ..; first | refine q0g ?_ | refine q1d ?_ | refine q1x ?_) | (show q3f ..; refine q1h ?_) | (show q1j ..; (refine q0u (r := ?_) ?_ ?_; rotate_left 1; (focus first | exact h1 | exact h2 | exact h3))) | (show wGo ..; first | refine q3n ?_ | refine q4e ?_ | refine q3x ?_ | refine q5b ?_) | (show q0d ..; first | refine q0h ?_ | refine q0b ?_ | refine q0r ?_ | refine q0q ?_ | refine q0j ?_) | (show q0o ..; first | refine cd_t ?_ | refine cd_f ?_) | refine q0a ?_ | refine q1v ?_ | (show retQ ..; refine q0s ?_) | refine q0l ?_)
    all_goals rfl
theorem r17_look (w : Wd) (t : Ob) (r : Rf) (hf : FewW w) (ht : t.label.length ≤ 20) : Pure Tryz.prog 123 [.agg (Wd.enc w), .agg (Ob.enc t), .agg (Rf.enc r)] (.tup [.agg (Ob.enc (q7g w t r).1), .int .i64 (q7g w t r).2]) := by
  have hn := hf.n
  have h1 := r17_dir w t r.cont false hf ht
  have h2 := q5y w r.id (by omega)
  have hl := (dirR_few hf t r.cont false).2
  unfold q7g
  generalize dirR w t r.cont false = D at h1 hl
  obtain ⟨d, e⟩ := D
  simp only at h1 hl ⊢
  cases he : (e == 0) with
  | false =>
    have he2 : (e != 0) = true := by simp [bne, he]
    simp only [Bool.false_eq_true, if_false]
    refine q2d (by kernel_rfl) (by simp only [go_sem, *]) (by simp only [go_sem, *]) Tryz.func123 Tryz.results123 rfl (by simp [Tryz.ntmps123]) (by kernel_rfl) ?_
    repeat' (first | (show q0i ..; first | refine q0c ?_ | refine q0e rfl ?_) | (show q0k ..; first | refine q0f rfl rfl ?_ | refine q0m rfl ?_) | (show goOn ..; first | refine q0g ?_ | refine q1d ?_ | refine q1x ?_) | (show q3f ..; refine q1h ?_) | (show q1j ..; (refine q0u (r := ?_) ?_ ?_; rotate_left 1; (focus first | exact h1 | exact h2))) | (show q0d ..; first | refine q0h ?_ | refine q0b ?_ | refine q0r ?_ | refine q0j ?_) | (show q0o ..; refine cd_t ?_) | refine q0a ?_ | refine q1v ?_ | (show retQ ..; refine q0s ?_) | refine q0l ?_)
    all_goals rfl
  | true =>
    have he2 : (e != 0) = false := by simp [bne, he]
    simp only [if_true]
    obtain ⟨Rr, hR⟩ : ∃ Rr, Rr = (if (d.links.any fun x => x == r.id) = true then ((q2p w r.id).1, (0 : Int)) else (Ob.zero, 1)) := ⟨_, rfl⟩
    rw [← hR]
    refine q2d (by kernel_rfl) (by simp only [go_sem, *]) (by simp only [go_sem, *]) Tryz.func123 Tryz.results123 rfl (by simp [Tryz.ntmps123]) (by kernel_rfl) ?_
    repeat' (first | (show q0i ..; first | refine q0c ?_ | refine q0e rfl ?_) | (show q0k ..; first | refine q0f rfl rfl ?_ | refine q0m rfl ?_) | (show goOn ..; first | refine q0g ?_ | refine q1d ?_ | refine q1x ?_) | (show q3f ..; refine q1h ?_) | (show q1j ..; (refine q0u (r := ?_) ?_ ?_; rotate_left 1; (focus exact h1))) | (show q0d ..; first | refine q0h ?_ | refine q0b ?_ | refine q0q ?_ | refine q0n ?_ | refine q0j ?_) | (show q0o ..; refine cd_f ?_) | refine q0a ?_)
    refine q2q (S := Nat) (fun k => d.links.length - k) (fun k => k ≤ d.links.length ∧ ∀ j, j < k → ∀ y, d.links[j]? = some y → (y == r.id) = false) (fun k => [(3, .ptr 0 0), (5, .ptr 2 0), (6, .ptr 3 0), (8, .ptr 4 0), (10, .int .i64 k)]) (fun _ => [(0, .box (Wd.enc w)), (2, .box (Rf.enc r)), (3, .box (Ob.enc Ob.zero)), (4, .box (Ob.enc d))]) (fun _ => 5) 0 ⟨Nat.zero_le _, fun j hj => absurd hj (Nat.not_lt_zero j)⟩ (by (refine q1n ?_ ?_ <;> repeat' (first | exact q0v | exact q0y | refine q0p (by (try simp only [go_sem, *]); try rfl) (by simp only [go_sem, *]) ?_ | refine q0z (by (try simp only [go_sem, *]); try rfl) (by omega) (by simp only [go_sem, *]) ?_ | refine q0x (by (try simp only [go_sem, *]); try rfl) (by omega) (by simp only [go_sem, *]) ?_))) ?_
    rintro k ⟨hk, hs⟩
    rcases Nat.lt_or_ge k d.links.length with hlt | hge
    · obtain ⟨x, hx⟩ := q2f hlt
      have h0 := q2k hlt
      have h4 := q2e k (by omega)
      cases hc : (x == r.id) with
      | true =>
        rw [if_pos (List.any_eq_true.2 ⟨x, sidx hx, hc⟩)] at hR
        subst hR
        clear hs
        repeat' (first | (show q0i ..; first | refine q0c ?_ | refine q0e rfl ?_) | (show q0k ..; first | refine q0f rfl rfl ?_ | refine q0m rfl ?_) | (show goOn ..; first | refine q0g ?_ | refine q1d ?_ | refine q1x ?_) | (show q3f ..; refine q1h ?_) | (show q1j ..; (refine q0u (r := ?_) ?_ ?_; rotate_left 1; (focus exact h2))) | (show dr ..; first | refine q1y ?_ | refine dr_n rfl ?_) | (show drGo ..; refine q3b rfl ?_) | (show drOn ..; refine q1z ?_) | (refine And.intro (by kernel_rfl : q1l _ = true) ?_) | (show q0d ..; first | refine q0h ?_ | refine q0b ?_ | refine q1k (by kernel_rfl) ?_ | refine q0r ?_ | refine q0q ?_ | refine q0n ?_ | refine q0j ?_) | (show q0o ..; refine cd_t ?_) | refine q0a ?_ | refine q1v ?_ | refine q3m ?_ | (show retQ ..; refine q0s ?_) | refine q0l ?_)
        all_goals rfl
      | false =>
        have hs' := none_to hx hs hc
        clear hs hR
        repeat' (first | (show q0i ..; first | refine q0c ?_ | refine q0e rfl ?_) | (show q0k ..; refine q0f rfl rfl ?_) | (show goOn ..; refine q0g ?_) | (show dr ..; first | refine q1y ?_ | refine dr_n rfl ?_) | (show drGo ..; refine q3b rfl ?_) | (show drOn ..; refine q1z ?_) | (refine And.intro (by kernel_rfl : q1l _ = true) ?_) | (show q0d ..; first | refine q0h ?_ | refine q0b ?_ | refine q1k (by kernel_rfl) ?_ | refine q0q ?_ | refine q0n ?_ | refine q0j ?_) | (show q0o ..; first | refine cd_t ?_ | refine cd_f ?_) | refine q0a ?_ | refine q0t ?_)
        all_goals exact again (k + 1) ⟨hlt, hs'⟩ (show d.links.length - (k + 1) < d.links.length - k by omega) (by (refine q1n ?_ ?_ <;> repeat' (first | exact q0v | exact q0y | refine q0p (by (try simp only [go_sem, *]); try rfl) (by simp only [go_sem, *]) ?_ | refine q0z (by (try simp only [go_sem, *]); try rfl) (by omega) (by simp only [go_sem, *]) ?_ | refine q0x (by (try simp only [go_sem, *]); try rfl) (by omega) (by simp only [go_sem, *]) ?_)))
    · have h0 := q1w hge
      rw [if_neg (by
        rw [Bool.not_eq_true, List.any_eq_false]
        intro x hx
        obtain ⟨j, hj⟩ := List.getElem?_of_mem hx
        rw [hs j (by have := q3y hj; omega) x hj]; simp)] at hR
      subst hR
      clear hs
      repeat' (first | (show q0i ..; first | refine q0c ?_ | refine q0e rfl ?_) | (show q0k ..; refine q0f rfl rfl ?_) | (show goOn ..; first | refine q0g ?_ | refine q1x ?_) | (show q3f ..; refine q1h ?_) | (show q0d ..; first | refine q0h ?_ | refine q0b ?_ | refine q0r ?_ | refine q1q ?_ | refine q0j ?_) | (show q0o ..; refine cd_f ?_) | refine q0a ?_ | refine q1p ?_ | refine q1r ?_ | (show retQ ..; refine q0s ?_) | refine q0l ?_)
      all_goals rfl
theorem r17_see (w : Wd) (t : Ob) (r : Rf) (kind : Int) (hf : FewW w) (ht : t.label.length ≤ 20) : Pure Tryz.prog 63 [.agg (Wd.enc w), .agg (Ob.enc t), .agg (Rf.enc r), .int .i64 kind] (.tup [.agg (Ob.enc (seeR w t r kind).1), .int .i64 (seeR w t r kind).2]) := by
  have h1 := r17_look w t r hf ht
  have hl := lookR_few hf t r
  unfold seeR
  generalize q7g w t r = D at h1 hl
  obtain ⟨o, e⟩ := D
  simp only at h1 hl ⊢
  have h2 := r17_sees t o ht hl
  generalize x0j t o = b2 at h2
  cases he : (e == 0) <;> cases hk : (kind == 0) <;> cases hk2 : (o.kind == kind) <;> cases b2
  all_goals
    have he2 : (e != 0) = !(e == 0) := rfl
    have hkn : (kind != 0) = !(kind == 0) := rfl
    have hkm : (o.kind != kind) = !(o.kind == kind) := rfl
    rw [he] at he2
    rw [hk] at hkn
    rw [hk2] at hkm
    simp only [Bool.not_true, Bool.not_false, Bool.or_true, Bool.or_false, Bool.true_or, Bool.false_or, Bool.false_eq_true, if_true, if_false] at he2 hkn hkm ⊢
    refine q2d (by kernel_rfl) (by simp only [go_sem, *]) (by simp only [go_sem, *]) Tryz.func63 Tryz.results63 rfl (by simp [Tryz.ntmps63]) (by kernel_rfl) ?_
    repeat' (first | (show q0i ..; first | refine q0c ?_ | refine q0e rfl ?_ | refine q1b rfl rfl ?_) | (show q0k ..; first | refine q0f rfl rfl ?_ | refine q0m rfl ?_) | (show goOn ..; first | refine q0g ?_ | refine q1d ?_ | refine q1x ?_) | (show q3f ..; refine q1h ?_) | (show q1j ..; (refine q0u (r := ?_) ?_ ?_; rotate_left 1; (focus first | exact h1 | exact h2))) | (show wGo ..; first | refine q3n ?_ | refine q3x ?_) | (show q0d ..; first | refine q0h ?_ | refine q0b ?_ | refine q0r ?_ | refine q0q ?_ | refine q0j ?_) | (show q0o ..; first | refine cd_t ?_ | refine cd_f ?_) | refine q0a ?_ | refine q1v ?_ | (show retQ ..; refine q0s ?_) | refine q0l ?_)
    all_goals rfl
end Go.Proofs.YtoibbedpaaeclaaGreat
end

section
namespace Go.Proofs.YtoibbedpaaeclaaGreat
open Go Go.RowKit
set_option linter.unusedVariables false
set_option linter.unusedSimpArgs false
set_option maxHeartbeats 16000000
set_option maxRecDepth 100000
attribute [go_sem] q1m
@[go_sem] theorem qne_2 (m : Nat) : (m + 1 = m) = False := eq_false (by omega)
@[go_sem] theorem qne_3 (m : Nat) : (m = m + 1 + 1) = False := eq_false (by omega)
@[go_sem] theorem qne_4 (m : Nat) : (m + 1 + 1 = m) = False := eq_false (by omega)
@[go_sem] theorem qne_5 (m : Nat) : (m = m + 1 + 1 + 1) = False := eq_false (by omega)
@[go_sem] theorem qne_6 (m : Nat) : (m + 1 + 1 + 1 = m) = False := eq_false (by omega)
def q6u (t : Ob) (w : Wd) : List PV := Ob.enc t ++ Wd.enc w
@[go_sem] theorem fd_cells (t : Ob) (w : Wd) : PV.cells? (.agg (q6u t w)) = some (q6u t w) := rfl
@[go_sem] theorem fd_build (t : Ob) (w : Wd) : q4c Tryz.prog 286 [(0, .agg (Ob.enc t)), (1, .agg (Wd.enc w))] = some (.agg (q6u t w)) := by kernel_rfl
@[go_sem] theorem fd_f0 : q1s Tryz.prog 286 0 = some (71, 0) := by kernel_rfl
@[go_sem] theorem fd_f1 : q1s Tryz.prog 286 1 = some (33, 51) := by kernel_rfl
@[go_sem] theorem fd_w (t : Ob) (w : Wd) : cut Tryz.prog 33 (q6u t w) 51 = some (.agg (Wd.enc w)) := by kernel_rfl
@[go_sem] theorem fd_l (t : Ob) (w : Wd) : cut Tryz.prog 26 (q6u t w) 2 = some (.sl (t.label.map Pr.enc)) := by kernel_rfl
def thr (e : Int) : PV := .ifc 283 (.agg [.int .i64 e])
@[go_sem] theorem thr_build (e : Int) : q4c Tryz.prog 283 [(0, .int .i64 e)] = some (.agg [.int .i64 e]) := by kernel_rfl
theorem up_fit {l : List Pr} (h : q3k l = true) : q3k (l.map upPr) = true := by
  unfold q3k
  rw [List.length_map]
  refine q2m fun k hk => ?_
  have hq := allB_iff.1 h k hk
  unfold q5z at hq ⊢
  rw [List.getElem?_map]
  cases hx : l[k]? with
  | none => rfl
  | some x =>
    rw [hx] at hq
    simp only [Bool.and_eq_true, Option.map_some] at hq ⊢
    obtain ⟨⟨h1, h2⟩, h3⟩ := hq
    have hlev : q5v (levUp x.lev) = true ∧ (!(levUp x.lev == 2)) = true := by
      have e : q6t x.lev = x.lev := by unfold q6t; rw [if_pos h1]
      unfold levUp
      rw [e]
      split
      · exact ⟨rfl, rfl⟩
      · exact ⟨h1, h2⟩
    refine ⟨hlev, ?_⟩
    cases k with
    | zero => rfl
    | succ j =>
      simp only at h3 ⊢
      rw [List.getElem?_map]
      cases hy : l[j]? with
      | none => rfl
      | some y => rw [hy] at h3; exact h3
theorem sound_fit {o : Ob} (h : sound o = true) : q3k o.label = true := q6a (sound_kept h)
theorem shown_fit {o : Ob} (h : sound o = true) : q3k (q5u o) = true := by
  unfold q5u
  split
  · exact up_fit (sound_fit h)
  · exact sound_fit h
theorem zero_shown : shownOf Ob.zero = q5u Ob.zero := rfl
/-- What is known of an object that is found: it is sound, or none. -/
def Okay (o : Ob) : Prop := o.label.length ≤ 20 ∧ (sound o = true ∨ o = Ob.zero)
theorem okay_shown {o : Ob} (h : Okay o) : shownOf o = q5u o := by rcases h.2 with h | rfl; exact shown_eq h; rfl
theorem okay_fit {o : Ob} (h : Okay o) : q3k (q5u o) = true ∧ q3k o.label = true := by
  rcases h.2 with h | rfl
  · exact ⟨shown_fit h, sound_fit h⟩
  · exact ⟨rfl, rfl⟩
theorem x0q {w : Wd} (hf : FewW w) (h : q6s w = true) (id : Int) : Okay (q2p w id).1 := by
  refine ⟨q6o hf id, ?_⟩
  unfold q2p
  split
  · rename_i x hx; exact .inl ((q5n h).2.1 x (List.mem_of_find?_eq_some hx))
  · exact .inr rfl
def RisZ (l : List Int) : Prop := ∀ (i j : Nat) (x y : Int), l[i]? = some x → l[j]? = some y → i < j → x < y
theorem risZ_of {l : List Int} (h : allB l.length (risAt l) = true) : RisZ l := by
  have step : ∀ i (x y : Int), l[i]? = some x → l[i + 1]? = some y → x < y := fun i x y hx hy => by
    have := allB_iff.1 h (i + 1) (q3y hy)
    unfold risAt at this
    rw [hy] at this
    simp only [Bool.and_eq_true] at this
    have h2 := this.2
    rw [hx] at h2
    simp only [Bool.not_eq_true', decide_eq_false_iff_not] at h2
    omega
  intro i j
  induction j with
  | zero => intro x y _ _ hij; omega
  | succ j ih =>
    intro x y hx hy hij
    obtain ⟨z, hz⟩ := q2f (by have := q3y hy; omega : j < l.length)
    rcases Nat.lt_or_ge i j with h1 | h1
    · have := ih x z hx hz h1; have := step j z y hz hy; omega
    · obtain rfl : i = j := by omega
      rw [hx] at hz; cases hz; exact step i x y hx hy
theorem okay_links {o : Ob} (h : Okay o) (hk : (o.kind == 2) = true) : RisZ o.links := by
  rcases h.2 with h | rfl
  · unfold sound at h
    simp only [Bool.and_eq_true] at h
    have hi := h.2.2
    have hk' : o.kind = 2 := by simpa using hk
    unfold inner at hi
    rw [if_neg (by rw [hk']; decide), if_pos hk] at hi
    simp only [Bool.and_eq_true] at hi
    exact risZ_of hi.2
  · exact fun i j x y hx => by simp [Ob.zero] at hx
def posZ (l : List Int) (n : Int) : Nat := (l.takeWhile (fun x => decide (x < n))).length
theorem posZ_spot {l : List Int} {n : Int} {k : Nat} (hk : k ≤ l.length) (h1 : ∀ i, i < k → ∀ x, l[i]? = some x → x < n) (h2 : ∀ x, l[k]? = some x → ¬ x < n) : posZ l n = k := by
  unfold posZ
  induction l generalizing k with
  | nil => simp at hk; subst hk; rfl
  | cons a l ih =>
    cases k with
    | zero =>
      have := h2 a rfl
      rw [List.takeWhile_cons, if_neg (by simpa using this)]; rfl
    | succ k =>
      have := h1 0 (by omega) a rfl
      rw [List.takeWhile_cons, if_pos (by simpa using this), List.length_cons, ih (by simpa using hk) (fun k hk x hx => h1 (k + 1) (by omega) x (by simpa using hx)) (fun x hx => h2 x (by simpa using hx))]
attribute [local irreducible] q0i dr q0d Ex.then Ex.inBlock retQ q1l q2j q2g Pure CSat evOp q1i rdOf upd hset strip sp0 cut envL q1g q3q Keep BdL evBs q2s q3c
theorem cmp_less (x y : Int) : Pure Tryz.prog 304 [.int .u64 x, .int .u64 y] (.bool (decide (x < y))) := by
  refine q2d (by kernel_rfl) (by simp only [go_sem, *]) (by simp only [go_sem, *]) Tryz.func304 Tryz.results304 rfl (by simp [Tryz.ntmps304]) (by kernel_rfl) ?_
  repeat' (first | (show q0i ..; first | refine q0c ?_ | refine q0e rfl ?_ | refine q1b rfl rfl ?_) | (show q0k ..; first | refine q0f rfl rfl ?_ | refine q0m rfl ?_) | (show goOn ..; refine q0g ?_) | (show q1j ..; (refine q0u (r := ?_) ?_ ?_; rotate_left 1; (focus exact cmp_nan _))) | (show wGo ..; first | refine q4e ?_ | refine q3x ?_) | (show q0d ..; first | refine q0h ?_ | refine q0b ?_ | refine q0r ?_) | refine q0a ?_ | (show retQ ..; refine q0s ?_) | refine q0l ?_)
  all_goals (refine q1o ?_; simp [*])
theorem sl_nan (x : Int) : Pure Tryz.prog 305 [.int .u64 x] (.bool false) := by
  refine q2d (by kernel_rfl) (by simp only [go_sem, *]) (by simp only [go_sem, *]) Tryz.func305 Tryz.results305 rfl (by simp [Tryz.ntmps305]) (by kernel_rfl) ?_
  repeat' (first | (show q0i ..; first | refine q0c ?_ | refine q0e rfl ?_) | (show q0k ..; refine q0f rfl rfl ?_) | (show goOn ..; refine q0g ?_) | (show q0d ..; first | refine q0h ?_ | refine q0b ?_ | refine q0r ?_) | refine q0a ?_ | (show retQ ..; refine q0s ?_) | refine q0l ?_)
  all_goals (refine q1o ?_; simp [*])
theorem bin_search (l : List Int) (n : Int) (hl : l.length ≤ 1000000) (hs : RisZ l) : Pure Tryz.prog 293 [.sl (l.map u64), .int .u64 n] (.tup [.int .i64 (posZ l n), .bool (l.any (· == n))]) := by
  refine q2d (by kernel_rfl) (by simp only [go_sem, *]) (by simp only [go_sem, *]) Tryz.func293 Tryz.results293 rfl (by simp [Tryz.ntmps293]) (by kernel_rfl) ?_
  repeat' (first | (show q0i ..; first | refine q0c ?_ | refine q0e rfl ?_) | (show q0k ..; refine q0f rfl rfl ?_) | (show goOn ..; refine q0g ?_) | (show q0d ..; first | refine q0h ?_ | refine q0b ?_ | refine q0n ?_) | refine q0a ?_)
  refine q2q (S := Nat × Nat) (fun s => s.2 - s.1) (fun s => s.1 ≤ s.2 ∧ s.2 ≤ l.length ∧ (∀ k, k < s.1 → ∀ x, l[k]? = some x → x < n) ∧ (∀ k, s.2 ≤ k → ∀ x, l[k]? = some x → ¬ x < n)) (fun s => [(0, .sl (l.map u64)), (1, .int .u64 n), (6, .int .i64 l.length), (7, .int .i64 s.1), (8, .int .i64 s.2)]) (fun _ => []) (fun _ => 0) (0, l.length) ⟨Nat.zero_le _, Nat.le_refl _, fun k hk => absurd hk (Nat.not_lt_zero k), fun k hk x hx => absurd (q3y hx) (by simp only at hk; omega)⟩ (by (refine q1n ?_ ?_ <;> repeat' (first | exact q0v | exact q0y | refine q0p (by (try simp only [go_sem, *]); try rfl) (by simp only [go_sem, *]) ?_ | refine q0z (by (try simp only [go_sem, *]); try rfl) (by omega) (by simp only [go_sem, *]) ?_ | refine q0x (by (try simp only [go_sem, *]); try rfl) (by omega) (by simp only [go_sem, *]) ?_))) ?_
  rintro ⟨i, j⟩ ⟨hij, hj, h1, h2⟩
  simp only at hij hj h1 h2
  rcases Nat.lt_or_ge i j with hlt | hge
  · obtain ⟨x, hx⟩ := q2f (by omega : (i + j) / 2 < l.length)
    have h0 := q2k hlt
    have e1 : IntKind.i64.wrap ((i : Int) + (j : Int)) = ((i + j : Nat) : Int) := by rw [IntKind.wrap_i64]; omega
    have e2 : IntKind.u64.wrap ((i + j : Nat) : Int) = ((i + j : Nat) : Int) := by rw [IntKind.wrap_u64]; omega
    have e3 : IntKind.i64.wrap (((i + j) / 2 : Nat) : Int) = (((i + j) / 2 : Nat) : Int) := by rw [IntKind.wrap_i64]; omega
    have e4 := q2e ((i + j) / 2) (by omega)
    repeat' (first | (show q0i ..; first | refine q0c ?_ | refine q0e rfl ?_) | (show q0k ..; first | refine q0f rfl rfl ?_ | refine q0m rfl ?_) | (show goOn ..; refine q0g ?_) | (show q1j ..; (refine q0u (r := ?_) ?_ ?_; rotate_left 1; (focus exact cmp_less _ _))) | (show q0d ..; first | refine q0h ?_ | refine q0b ?_ | refine q0q ?_ | refine q0n ?_ | refine q0j ?_) | (show q0o ..; first | refine cd_t ?_ | refine cd_b (fun _ => ?_) (fun _ => ?_)) | refine q0a ?_ | refine q0t ?_)
    all_goals rename_i hc
    · refine again ((i + j) / 2 + 1, j) ⟨by simp only; omega, hj, fun k hk y hy => ?_, h2⟩ (by simp only; omega) (by (refine q1n ?_ ?_ <;> repeat' (first | exact q0v | exact q0y | refine q0p (by (try simp only [go_sem, *]); try rfl) (by simp only [go_sem, *]) ?_ | refine q0z (by (try simp only [go_sem, *]); try rfl) (by omega) (by simp only [go_sem, *]) ?_ | refine q0x (by (try simp only [go_sem, *]); try rfl) (by omega) (by simp only [go_sem, *]) ?_)))
      simp only at hk
      rcases Nat.lt_or_ge k ((i + j) / 2) with h | h
      · have := hs k _ y x hy hx h; have := of_decide_eq_true hc; omega
      · obtain rfl : k = (i + j) / 2 := by omega
        rw [hx] at hy; cases hy; exact of_decide_eq_true hc
    · refine again (i, (i + j) / 2) ⟨by simp only; omega, by simp only; omega, h1, fun k hk y hy => ?_⟩ (by simp only; omega) (by (refine q1n ?_ ?_ <;> repeat' (first | exact q0v | exact q0y | refine q0p (by (try simp only [go_sem, *]); try rfl) (by simp only [go_sem, *]) ?_ | refine q0z (by (try simp only [go_sem, *]); try rfl) (by omega) (by simp only [go_sem, *]) ?_ | refine q0x (by (try simp only [go_sem, *]); try rfl) (by omega) (by simp only [go_sem, *]) ?_)))
      simp only at hk
      have hc' := of_decide_eq_false hc
      rcases Nat.lt_or_ge ((i + j) / 2) k with h | h
      · have := hs _ k x y hx hy h; omega
      · obtain rfl : k = (i + j) / 2 := by omega
        rw [hx] at hy; cases hy; exact hc'
  · obtain rfl : i = j := by omega
    have h0 := q1w hge
    have hp := posZ_spot hj h1 (h2 i (Nat.le_refl _))
    have hany : l.any (· == n) = (match l[i]? with | some x => x == n | none => false) := by
      cases hx : l[i]? with
      | none =>
        simp only
        rw [List.any_eq_false]
        intro y hy
        obtain ⟨k, hk⟩ := List.getElem?_of_mem hy
        have hki : k < i := by
          rcases Nat.lt_or_ge k i with h | h
          · exact h
          · rw [List.getElem?_eq_none (by have := List.getElem?_eq_none_iff.1 hx; omega)] at hk; cases hk
        have := h1 k hki y hk
        simp; omega
      | some x =>
        simp only
        cases hxn : (x == n) with
        | true => exact List.any_eq_true.2 ⟨x, sidx hx, hxn⟩
        | false =>
          rw [List.any_eq_false]
          intro y hy
          obtain ⟨k, hk⟩ := List.getElem?_of_mem hy
          have hxn' : x ≠ n := by simpa using hxn
          have hx2 := h2 i (Nat.le_refl _) x hx
          rcases Nat.lt_trichotomy k i with h | h | h
          · have := h1 k h y hk; simp; omega
          · subst h; rw [hx] at hk; cases hk; simpa using hxn'
          · have := hs i k x y hx hk h; simp; omega
    rw [hp, hany]
    clear hany h1 h2
    rcases Nat.lt_or_ge i l.length with hil | hil
    · obtain ⟨x, hx⟩ := q2f hil
      have h3 := q2k hil
      rw [hx]
      simp only
      cases hxn : (x == n) with
      | true =>
        repeat' (first | (show q0i ..; first | refine q0c ?_ | refine q0e rfl ?_ | refine q1b rfl rfl ?_) | (show q0k ..; refine q0f rfl rfl ?_) | (show goOn ..; refine q0g ?_) | (show wGo ..; first | refine q3n ?_ | refine q5b ?_ | refine gw_u ?_) | (show q0d ..; first | refine q0h ?_ | refine q0b ?_ | refine q0r ?_ | refine q1q ?_ | refine q0j ?_) | (show q0o ..; refine cd_f ?_) | refine q0a ?_ | refine q1p ?_ | refine q1r ?_ | (show retQ ..; refine q0s ?_) | refine q0l ?_)
        all_goals rfl
      | false =>
        repeat' (first | (show q0i ..; first | refine q0c ?_ | refine q0e rfl ?_ | refine q1b rfl rfl ?_) | (show q0k ..; first | refine q0f rfl rfl ?_ | refine q0m rfl ?_) | (show goOn ..; refine q0g ?_) | (show q1j ..; (refine q0u (r := ?_) ?_ ?_; rotate_left 1; (focus exact sl_nan _))) | (show wGo ..; first | refine q3n ?_ | refine q4e ?_ | refine q3x ?_) | (show q0d ..; first | refine q0h ?_ | refine q0b ?_ | refine q0r ?_ | refine q1q ?_ | refine q0j ?_) | (show q0o ..; refine cd_f ?_) | refine q0a ?_ | refine q1p ?_ | refine q1r ?_ | (show retQ ..; refine q0s ?_) | refine q0l ?_)
        all_goals rfl
    · have h3 := q1w hil
      rw [List.getElem?_eq_none hil]
      simp only
      repeat' (first | (show q0i ..; first | refine q0c ?_ | refine q0e rfl ?_ | refine q1b rfl rfl ?_) | (show q0k ..; refine q0f rfl rfl ?_) | (show goOn ..; refine q0g ?_) | (show wGo ..; first | refine q3x ?_ | refine gw_u ?_) | (show q0d ..; first | refine q0h ?_ | refine q0b ?_ | refine q0r ?_ | refine q1q ?_ | refine q0j ?_) | (show q0o ..; refine cd_f ?_) | refine q0a ?_ | refine q1p ?_ | refine q1r ?_ | (show retQ ..; refine q0s ?_) | refine q0l ?_)
      all_goals rfl
theorem obs_eq (t : List Pr) (o : Ob) (ht : q3k t = true) (ho : Okay o) (htl : t.length ≤ 20) : Pure Tryz.prog 294 [.sl (t.map Pr.enc), .sl ((q5u o).map Pr.enc)] (.bool (obsR t (q5u o))) := by
  have h1 := x0d t (by omega)
  rw [x0l ht] at h1
  have h2 := label_leq (q5u o) (t.map upPr) (by rw [shown_len, List.length_map]; have := ho.1; omega)
  rw [leq_eq (okay_fit ho).1 (up_fit ht)] at h2
  refine q2d (by kernel_rfl) (by simp only [go_sem, *]) (by simp only [go_sem, *]) Tryz.func294 Tryz.results294 rfl (by simp [Tryz.ntmps294]) (by kernel_rfl) ?_
  repeat' (first | (show q0i ..; first | refine q0c ?_ | refine q0e rfl ?_) | (show q0k ..; first | refine q0f rfl rfl ?_ | refine q0m rfl ?_) | (show goOn ..; refine q0g ?_) | (show q1j ..; (refine q0u (r := ?_) ?_ ?_; rotate_left 1; (focus first | exact h1 | exact h2))) | (show q0d ..; first | refine q0h ?_ | refine q0b ?_ | refine q0r ?_) | refine q0a ?_ | (show retQ ..; refine q0s ?_) | refine q0l ?_)
  all_goals rfl
theorem sees_csat {H : Heap} {m i : Nat} (t : Ob) (w : Wd) (o : Ob) (hb : H i = some (.box (q6u t w))) (hi : i < m) (ht : q3k t.label = true) (htl : t.label.length ≤ 20) (ho : Okay o) : CSat Tryz.prog 259 [.ptr i 0, .agg (Ob.enc o)] H m (fun out H' m' => out = .ret (.bool (x0j t o)) ∧ m ≤ m' ∧ ∀ j, j < m → H' j = H j) := by
  have h1 := obj_shown o (by have := ho.1; omega)
  rw [okay_shown ho] at h1
  have h2 := obs_eq t.label o ht ho htl
  have n0 : (i = m) = False := eq_false (by omega)
  refine q4u (by kernel_rfl) Tryz.func259 Tryz.results259 rfl (by simp [Tryz.ntmps259]) (by kernel_rfl) ?_
  repeat' (first | (show q0i ..; first | refine q0c ?_ | refine q0e rfl ?_) | (show q0k ..; refine q0f rfl rfl ?_) | (show goOn ..; first | refine q0g ?_ | refine q1d ?_) | (show dr ..; first | refine q1y ?_ | refine dr_n rfl ?_) | (show drGo ..; first | refine q3b rfl ?_ | refine q2l rfl ?_) | (show drOn ..; refine q1z ?_) | (show q2h ..; (refine q1f (r := ?_) ?_ ?_; rotate_left 1; (focus first | exact h1 | exact h2))) | (refine And.intro (by kernel_rfl : q1l _ = true) ?_) | (show q0d ..; first | refine q0h ?_ | refine q0b ?_ | refine q1k (by kernel_rfl) ?_ | refine q0r ?_) | refine q0a ?_ | (show retQ ..; refine q0s ?_) | refine q0l ?_)
  refine ⟨rfl, by omega, fun j hj => q1a _ _ (by omega)⟩
theorem sees_q {H : Heap} {m i : Nat} (t : Ob) (w : Wd) (o : Ob) (hb : H i = some (.box (q6u t w))) (hi : i < m) (ht : q3k t.label = true) (htl : t.label.length ≤ 20) (ho : Okay o) : CallQ Tryz.prog 259 [.ptr i 0, .agg (Ob.enc o)] H m (.bool (x0j t o)) :=
  fun H' m' hm hH => sees_csat t w o (by rw [hH i hi]; exact hb) (by omega) ht htl ho
theorem changes_csat {H : Heap} {m i : Nat} (t : Ob) (w : Wd) (o : Ob) (hb : H i = some (.box (q6u t w))) (hi : i < m) (ht : q3k t.label = true) (htl : t.label.length ≤ 20) (ho : Okay o) : CSat Tryz.prog 241 [.ptr i 0, .agg (Ob.enc o)] H m (fun out H' m' => out = .ret (.bool (chgR t o)) ∧ m ≤ m' ∧ ∀ j, j < m → H' j = H j) := by
  have h2 := label_leq t.label o.label (by have := ho.1; omega)
  rw [leq_eq ht (okay_fit ho).2] at h2
  have n0 : (i = m) = False := eq_false (by omega)
  have hq := sees_q (H := hset H m (some (.box (Ob.enc o)))) (m := m + 1) (i := i) t w o (by rw [q1a _ _ (by omega)]; exact hb) (by omega) ht htl ho
  unfold chgR
  generalize x0j t o = b at hq
  cases b with
  | false =>
    refine q4u (by kernel_rfl) Tryz.func241 Tryz.results241 rfl (by simp [Tryz.ntmps241]) (by kernel_rfl) ?_
    repeat' (first | (show q0i ..; first | refine q0c ?_ | refine q0e rfl ?_) | (show q0k ..; refine q0f rfl rfl ?_) | (show goOn ..; first | refine q0g ?_ | refine q1d ?_) | (show wGo ..; refine q3x ?_) | (show drq ..; first | refine dq_nil ?_ | refine dq_n rfl ?_ | refine dq_w' rfl rfl ?_) | (show dqGo ..; first | refine dq_ev rfl ?_ | refine dq_call rfl ?_) | (show dqcGo ..; refine dqc_q ( hq) ?_) | (show q0d ..; first | refine q0h ?_ | refine q0b ?_ | refine pc_drawQ (by kernel_rfl) ?_) | refine q0a ?_)
    intro H' m' h3 h4
    repeat' (first | (show q0d ..; refine q0r ?_) | refine q0a ?_ | (show retQ ..; refine q0s ?_) | refine q0l ?_)
    refine ⟨rfl, by omega, fun j hj => by rw [h4 j (by omega)]; exact q1a _ _ (by omega)⟩
  | true =>
    refine q4u (by kernel_rfl) Tryz.func241 Tryz.results241 rfl (by simp [Tryz.ntmps241]) (by kernel_rfl) ?_
    repeat' (first | (show q0i ..; first | refine q0c ?_ | refine q0e rfl ?_) | (show q0k ..; refine q0f rfl rfl ?_) | (show goOn ..; first | refine q0g ?_ | refine q1d ?_) | (show wGo ..; refine q3n ?_) | (show drq ..; first | refine dq_nil ?_ | refine dq_n rfl ?_ | refine dq_w' rfl rfl ?_) | (show dqGo ..; first | refine dq_ev rfl ?_ | refine dq_call rfl ?_) | (show dqcGo ..; first | refine dqc_q ( hq) ?_ | (refine dqc_pure (r := ?_) ?_ ?_; rotate_left 1; (focus exact h2))) | (show q0d ..; first | refine q0h ?_ | refine q0b ?_ | refine pc_drawQ (by kernel_rfl) ?_) | refine q0a ?_)
    intro H' m' h3 h4
    repeat' (first | (show q0d ..; refine q0r ?_) | refine q0a ?_ | (show retQ ..; refine q0s ?_) | refine q0l ?_)
    refine ⟨rfl, by omega, fun j hj => by rw [h4 j (by omega)]; exact q1a _ _ (by omega)⟩
theorem must_yes (H : Heap) (m : Nat) (p : PV) (e : Int) : CSat Tryz.prog 240 [p, .bool true, .int .i64 e] H m (fun out H' m' => (∃ r, out = .ret r) ∧ H' = H ∧ m' = m) := by
  refine q4u (by kernel_rfl) Tryz.func240 Tryz.results240 rfl (by simp [Tryz.ntmps240]) (by kernel_rfl) ?_
  repeat' (first | (show q0i ..; first | refine q0c ?_ | refine q0e rfl ?_) | (show q0k ..; refine q0f rfl rfl ?_) | (show goOn ..; refine q0g ?_) | (show q0d ..; first | refine q0h ?_ | refine q0b ?_ | refine q0q ?_ | refine q0j ?_) | (show q0o ..; refine cd_f ?_) | refine q0a ?_ | (show retQ ..; refine x0k ?_) | refine q0l ?_)
  exact ⟨⟨_, rfl⟩, rfl, rfl⟩
theorem must_no (H : Heap) (m : Nat) (p : PV) (e : Int) : CSat Tryz.prog 240 [p, .bool false, .int .i64 e] H m (fun out H' m' => out = .pan (thr e) ∧ H' = H ∧ m' = m) := by
  refine q4u (by kernel_rfl) Tryz.func240 Tryz.results240 rfl (by simp [Tryz.ntmps240]) (by kernel_rfl) ?_
  repeat' (first | (show q0i ..; first | refine q0c ?_ | refine q0e rfl ?_) | (show q0k ..; refine q0f rfl rfl ?_) | (show goOn ..; refine q0g ?_) | (show q0d ..; first | refine q0h ?_ | refine q0b ?_ | refine q0j ?_) | (show q0o ..; refine cd_t ?_) | refine q0a ?_)
  refine run_panic rfl rfl (by (try simp only [go_sem]); exact nm) (pan_some ?_)
  repeat' (first | refine q4k ?_ | refine q4y ?_ | refine q4w ?_)
  exact ⟨rfl, rfl, rfl⟩
def outE (r : Ob × Int) : Out := if (r.2 == 0) = true then .ret (.agg (Ob.enc r.1)) else .pan (thr r.2)
theorem dir_csat {H : Heap} {m i : Nat} (t : Ob) (w : Wd) (id : Int) (write : Bool) (hb : H i = some (.box (q6u t w))) (hi : i < m) (ht : q3k t.label = true) (htl : t.label.length ≤ 20) (hf : FewW w) (hw : q6s w = true) :
    CSat Tryz.prog 292 [.ptr i 0, .int .u64 id, .bool write] H m (fun out H' m' => out = outE (dirR w t id write) ∧ m ≤ m' ∧ ∀ j, j < m → H' j = H j) := by
  have hn := hf.n
  have h1 := obj_find w id (by omega) (q5n hw).1
  rw [findO_eq (q5n hw).1] at h1
  have ho := x0q hf hw id
  unfold dirR
  generalize q2p w id = F at h1 ho
  obtain ⟨d, ok⟩ := F
  simp only at h1 ho ⊢
  have n0 : (i = m) = False := eq_false (by omega)
  have n1 : (i = m + 1) = False := eq_false (by omega)
  have n2 : (i = m + 1 + 1) = False := eq_false (by omega)
  have seesC := fun (H : Heap) (m : Nat) (hb : H i = some (.box (q6u t w))) (hi : i < m) => sees_csat (H := H) (m := m) t w d hb hi ht htl ho
  have chgC := fun (H : Heap) (m : Nat) (hb : H i = some (.box (q6u t w))) (hi : i < m) => changes_csat (H := H) (m := m) t w d hb hi ht htl ho
  generalize x0j t d = b2 at seesC ⊢
  generalize chgR t d = b3 at chgC ⊢
  cases ok with
  | false =>
    refine q4u (by kernel_rfl) Tryz.func292 Tryz.results292 rfl (by simp [Tryz.ntmps292]) (by kernel_rfl) ?_
    repeat' (first | (show q0i ..; first | refine q0c ?_ | refine q0e rfl ?_ | refine q1b rfl rfl ?_) | (show q0k ..; first | refine q0f rfl rfl ?_ | refine q0m rfl ?_) | (show goOn ..; first | refine q0g ?_ | refine q1d ?_ | refine q1x ?_) | (show q3f ..; refine q1h ?_) | (show q1j ..; (refine q0u (r := ?_) ?_ ?_; rotate_left 1; (focus exact h1))) | (show wGo ..; refine q3x ?_) | (show q0d ..; first | refine q0h ?_ | refine q0b ?_) | refine q0a ?_)
    (refine q0w (by kernel_rfl) (must_no _ _ _ _) ?_ ?_)
    case refine_1 => rintro r H' m' ⟨h, _⟩; cases h
    rintro p H' m' ⟨h, rfl, rfl⟩
    cases h
    repeat' (first | refine q4k ?_ | refine q4y ?_ | refine q4w ?_)
    exact ⟨rfl, by omega, (fun j hj => by repeat rw [q1a _ _ (by omega)])⟩
  | true =>
  cases hk : (d.kind == 2) with
  | false =>
    refine q4u (by kernel_rfl) Tryz.func292 Tryz.results292 rfl (by simp [Tryz.ntmps292]) (by kernel_rfl) ?_
    repeat' (first | (show q0i ..; first | refine q0c ?_ | refine q0e rfl ?_ | refine q1b rfl rfl ?_) | (show q0k ..; first | refine q0f rfl rfl ?_ | refine q0m rfl ?_) | (show goOn ..; first | refine q0g ?_ | refine q1d ?_ | refine q1x ?_) | (show q3f ..; refine q1h ?_) | (show q1j ..; (refine q0u (r := ?_) ?_ ?_; rotate_left 1; (focus exact h1))) | (show wGo ..; first | refine q3n ?_ | refine q3x ?_) | (show q0d ..; first | refine q0h ?_ | refine q0b ?_) | refine q0a ?_)
    (refine q0w (by kernel_rfl) (must_no _ _ _ _) ?_ ?_)
    case refine_1 => rintro r H' m' ⟨h, _⟩; cases h
    rintro p H' m' ⟨h, rfl, rfl⟩
    cases h
    repeat' (first | refine q4k ?_ | refine q4y ?_ | refine q4w ?_)
    exact ⟨rfl, by omega, (fun j hj => by repeat rw [q1a _ _ (by omega)])⟩
  | true =>
  cases b2 with
  | false =>
    refine q4u (by kernel_rfl) Tryz.func292 Tryz.results292 rfl (by simp [Tryz.ntmps292]) (by kernel_rfl) ?_
    repeat' (first | (show q0i ..; first | refine q0c ?_ | refine q0e rfl ?_ | refine q1b rfl rfl ?_) | (show q0k ..; first | refine q0f rfl rfl ?_ | refine q0m rfl ?_) | (show goOn ..; first | refine q0g ?_ | refine q1d ?_ | refine q1x ?_) | (show q3f ..; refine q1h ?_) | (show q1j ..; (refine q0u (r := ?_) ?_ ?_; rotate_left 1; (focus exact h1))) | (show wGo ..; refine q3n ?_) | (show q0d ..; first | refine q0h ?_ | refine q0b ?_) | refine q0a ?_)
    (refine q0w (by kernel_rfl) (seesC _ _ (by simp only [go_sem, *]) (by omega)) ?_ ?_)
    case refine_2 => rintro p H' m' ⟨h, _⟩; cases h
    rintro r H1 m1 ⟨h, L1, A1⟩
    cases h
    repeat' (first | (show q0i ..; refine q0e rfl ?_) | (show q0k ..; first | refine q0f rfl rfl ?_ | refine q0m rfl ?_) | (show goOn ..; refine q0g ?_))
    (refine q0w (by kernel_rfl) (must_no _ _ _ _) ?_ ?_)
    case refine_1 => rintro r H' m' ⟨h, _⟩; cases h
    rintro p H' m' ⟨h, rfl, rfl⟩
    cases h
    repeat' (first | refine q4k ?_ | refine q4y ?_ | refine q4w ?_)
    exact ⟨rfl, by omega, (fun j hj => by rw [A1 j (by omega)]; repeat rw [q1a _ _ (by omega)])⟩
  | true =>
    refine q4u (by kernel_rfl) Tryz.func292 Tryz.results292 rfl (by simp [Tryz.ntmps292]) (by kernel_rfl) ?_
    repeat' (first | (show q0i ..; first | refine q0c ?_ | refine q0e rfl ?_ | refine q1b rfl rfl ?_) | (show q0k ..; first | refine q0f rfl rfl ?_ | refine q0m rfl ?_) | (show goOn ..; first | refine q0g ?_ | refine q1d ?_ | refine q1x ?_) | (show q3f ..; refine q1h ?_) | (show q1j ..; (refine q0u (r := ?_) ?_ ?_; rotate_left 1; (focus exact h1))) | (show wGo ..; refine q3n ?_) | (show q0d ..; first | refine q0h ?_ | refine q0b ?_) | refine q0a ?_)
    (refine q0w (by kernel_rfl) (seesC _ _ (by simp only [go_sem, *]) (by omega)) ?_ ?_)
    case refine_2 => rintro p H' m' ⟨h, _⟩; cases h
    rintro r H1 m1 ⟨h, L1, A1⟩
    cases h
    have low : ∀ j, j < m → H1 j = H j := fun j hj => by rw [A1 j (by omega)]; repeat rw [q1a _ _ (by omega)]
    have c0 : H1 i = some (.box (q6u t w)) := by rw [A1 i (by omega)]; simp only [go_sem, *]
    have c1 : H1 (m + 1) = some (.box (Ob.enc d)) := by rw [A1 (m + 1) (by omega)]; simp only [go_sem, *]
    have c2 : H1 m = some (.box (Ob.enc Ob.zero)) := by rw [A1 m (by omega)]; simp only [go_sem, *]
    clear A1
    repeat' (first | (show q0i ..; refine q0e rfl ?_) | (show q0k ..; first | refine q0f rfl rfl ?_ | refine q0m rfl ?_) | (show goOn ..; refine q0g ?_))
    (refine q0w (by kernel_rfl) (must_yes _ _ _ _) ?_ ?_)
    case refine_2 => rintro p H' m' ⟨⟨_, h⟩, _⟩; cases h
    rintro r H' m' ⟨⟨_, h⟩, rfl, rfl⟩
    clear h
    cases write with
    | false =>
      repeat' (first | (show q0i ..; first | refine q0c ?_ | refine q0e rfl ?_ | refine q1b rfl rfl ?_) | (show q0k ..; first | refine q0f rfl rfl ?_ | refine q0m rfl ?_) | (show goOn ..; refine q0g ?_) | (show wGo ..; refine q5b ?_) | (show q0d ..; first | refine q0h ?_ | refine q0b ?_) | refine q0a ?_)
      (refine q0w (by kernel_rfl) (must_yes _ _ _ _) ?_ ?_)
      case refine_2 => rintro p H' m' ⟨⟨_, h⟩, _⟩; cases h
      rintro r H' m' ⟨⟨_, h⟩, rfl, rfl⟩
      clear h
      repeat' (first | (show q0i ..; first | refine q0c ?_ | refine q0e rfl ?_) | (show q0k ..; refine q0f rfl rfl ?_) | (show goOn ..; first | refine q0g ?_ | refine q1x ?_) | (show q3f ..; refine q1h ?_) | (show q0d ..; first | refine q0h ?_ | refine q0b ?_ | refine q0r ?_) | refine q0a ?_ | (show retQ ..; refine q0s ?_) | refine q0l ?_)
      exact ⟨rfl, by omega, fun j hj => by rw [q1a _ _ (by omega)]; exact low j hj⟩
    | true =>
      repeat' (first | (show q0i ..; first | refine q0c ?_ | refine q0e rfl ?_ | refine q1b rfl rfl ?_) | (show q0k ..; first | refine q0f rfl rfl ?_ | refine q0m rfl ?_) | (show goOn ..; refine q0g ?_) | (show wGo ..; refine q4e ?_) | (show q0d ..; first | refine q0h ?_ | refine q0b ?_) | refine q0a ?_)
      (refine q0w (by kernel_rfl) (chgC _ _ c0 (by omega)) ?_ ?_)
      case refine_2 => rintro p H' m' ⟨h, _⟩; cases h
      rintro r H2 m2 ⟨h, L2, A2⟩
      cases h
      have low2 : ∀ j, j < m → H2 j = H j := fun j hj => by rw [A2 j (by omega)]; exact low j hj
      have e1 : H2 (m + 1) = some (.box (Ob.enc d)) := by rw [A2 (m + 1) (by omega)]; exact c1
      have e2 : H2 m = some (.box (Ob.enc Ob.zero)) := by rw [A2 m (by omega)]; exact c2
      clear A2 low c0 c1 c2
      cases b3 with
      | false =>
        repeat' (first | (show q0i ..; refine q0e rfl ?_) | (show q0k ..; first | refine q0f rfl rfl ?_ | refine q0m rfl ?_) | (show goOn ..; refine q0g ?_))
        (refine q0w (by kernel_rfl) (must_no _ _ _ _) ?_ ?_)
        case refine_1 => rintro r H' m' ⟨h, _⟩; cases h
        rintro p H' m' ⟨h, rfl, rfl⟩
        cases h
        repeat' (first | refine q4k ?_ | refine q4y ?_ | refine q4w ?_)
        exact ⟨rfl, by omega, low2⟩
      | true =>
        repeat' (first | (show q0i ..; refine q0e rfl ?_) | (show q0k ..; first | refine q0f rfl rfl ?_ | refine q0m rfl ?_) | (show goOn ..; refine q0g ?_))
        (refine q0w (by kernel_rfl) (must_yes _ _ _ _) ?_ ?_)
        case refine_2 => rintro p H' m' ⟨⟨_, h⟩, _⟩; cases h
        rintro r H' m' ⟨⟨_, h⟩, rfl, rfl⟩
        clear h
        repeat' (first | (show q0i ..; first | refine q0c ?_ | refine q0e rfl ?_) | (show q0k ..; refine q0f rfl rfl ?_) | (show goOn ..; first | refine q0g ?_ | refine q1x ?_) | (show q3f ..; refine q1h ?_) | (show q0d ..; first | refine q0h ?_ | refine q0b ?_ | refine q0r ?_) | refine q0a ?_ | (show retQ ..; refine q0s ?_) | refine q0l ?_)
        exact ⟨rfl, by omega, fun j hj => by rw [q1a _ _ (by omega)]; exact low2 j hj⟩
end Go.Proofs.YtoibbedpaaeclaaGreat
end

section
namespace Go.Proofs.YtoibbedpaaeclaaGreat
open Go Go.RowKit
set_option linter.unusedVariables false
set_option linter.unusedSimpArgs false
def modeOf : Option Value → FrameMode
  | none => .returning
  | some v => .panicking [{ v, recovered := false }]
def PanR (w : World) (M0 : Nat → Nat → Prop) (σ : Nat → Gh) (H : Heap) : Option Value → Option PV → Prop
  | none, none => True
  | some v, some q => VV w M0 σ H v q
  | _, _ => False
/-- What a deferred closure does, in a frame that returns, or that panics. -/
def DSat (P : Program) (g : FuncId) (args : List PV) (H : Heap) (m : Nat) (p : Option PV) (Q : Heap → Nat → Prop) : Prop :=
  ∀ (w : World) (M0 : Nat → Nat → Prop) (σ : Nat → Gh) (vs : List Value) (pv : Option Value), HR w M0 σ H → (∀ i, m ≤ i → H i = none) → VL w (MU M0 σ H) σ (LV H) vs args → PanR w M0 σ H pv p →
    CallsD P g vs.toArray (modeOf pv) w fun e u' w' => (∃ x, e = .returned x) ∧ settle u' = .returning ∧ ∃ H' m' σ', Q H' m' ∧ HR w' M0 σ' H' ∧ (∀ i, m' ≤ i → H' i = none) ∧ m ≤ m' ∧ Fr w M0 σ H w' σ' H'
section
variable {P : Program}
theorem st_init {w : World} {M0 : Nat → Nat → Prop} {σ : Nat → Gh} {H : Heap} {m nt : Nat} {args : List PV} {vs : List Value} (hr : HR w M0 σ H) (hfree : ∀ i, m ≤ i → H i = none) (hvl : VL w (MU M0 σ H) σ (LV H) vs args) (hn : args.length ≤ nt) :
    St w M0 σ H m nt [] { tmps := vs.toArray ++ Array.replicate (nt - vs.toArray.size) undef, defers := [] } w (q5a args) H m σ := by
  have hsz : (vs.toArray ++ Array.replicate (nt - vs.toArray.size) undef).size = nt := by
    have := hvl.1
    simp only [Array.size_append, List.size_toArray, Array.size_replicate]; omega
  refine ⟨hr, hfree, Nat.le_refl _, Fr.refl _ _ _ _, hsz, rfl, fun t => ?_⟩
  unfold q5a
  simp only [Array.getD_eq_getD_getElem?, List.getD_eq_getElem?_getD]
  by_cases ht : t < vs.length
  · rw [Array.getElem?_append_left (by simpa using ht)]
    have ht' : t < args.length := by rw [← hvl.1]; exact ht
    rw [List.getElem?_toArray, List.getElem?_eq_getElem ht, List.getElem?_eq_getElem ht']
    exact hvl.2 t _ _ (List.getElem?_eq_getElem ht) (List.getElem?_eq_getElem ht')
  · have ht' : args.length ≤ t := by rw [← hvl.1]; omega
    rw [List.getElem?_eq_none ht', Array.getElem?_append_right (by simpa using Nat.le_of_not_lt ht), Array.getElem?_replicate]
    split <;> exact .undef
theorem dsat_recover (hm : P.follows .mixedOrders = true) {g : FuncId} {fn : Func} {rid d1 d2 : Nat} {y : Code} {o1 o2 : Oper} {args : List PV} {H : Heap} {m : Nat} {p : Option PV} {Q : Heap → Nat → Prop} (hf : P.funcs[g]? = some fn) (hrs : fn.results = #[]) (hb : fn.body = some (.seq (.region rid #[o1, o2] false) y))
    (h1 : o1.op = .call { callee := .builtin .recover, args := #[], argTypes := #[] } ∧ o1.guard = none ∧ o1.dst = some d1) (h2 : o2.op = .assign (.tmp d1) ∧ o2.guard = none ∧ o2.dst = some d2) (hn : args.length ≤ fn.ntmps) (hd1 : d1 < fn.ntmps) (hd2 : d2 < fn.ntmps) (hd : q4o fn.ntmps y = true)
    (h : q0d P m y (fun ex env H' m' => (ex = .normal ∨ ex = .ret) ∧ Q H' m') (upd (upd (q5a args) (some d1) (p.getD .nilif)) (some d2) (p.getD .nilif)) H m) : DSat P g args H m p Q := by
  obtain ⟨h1a, h1b, h1c⟩ := h1
  obtain ⟨h2a, h2b, h2c⟩ := h2
  intro w M0 σ vs pv hr hfree hvl hpan
  refine callsD_of_wpS hf hb fun c₀ cs hu => ?_
  have hS0 := st_init (nt := fn.ntmps) hr hfree hvl hn
  generalize ({ tmps := vs.toArray ++ Array.replicate (fn.ntmps - vs.toArray.size) undef, defers := [] } : Act) = a0 at hS0 ⊢
  -- what recover hands back
  obtain ⟨x, hx⟩ : ∃ x, x = pv.getD .nilIface := ⟨_, rfl⟩
  have hxv : VV w M0 σ H x (p.getD .nilif) := by
    subst hx
    cases pv <;> cases p <;> first | exact hpan.elim | exact .nilif | exact hpan
  have hS1 : St w M0 σ H m fn.ntmps [] (a0.put (some d1) x) w (upd (q5a args) (some d1) (p.getD .nilif)) H m σ := hS0.step hr hfree (Nat.le_refl _) (Fr.refl _ _ _ _) (fun z hz => by cases hz; exact hd1) hxv
  have he1 : (a0.put (some d1) x).eval (.tmp d1) = x := by
    have := put_get a0 (some d1) x (fun z hz => by cases hz; rw [hS0.size]; exact hd1) d1
    rw [if_pos rfl] at this
    exact this
  have hS2 : St w M0 σ H m fn.ntmps [] ((a0.put (some d1) x).put (some d2) x) w (upd (upd (q5a args) (some d1) (p.getD .nilif)) (some d2) (p.getD .nilif)) H m σ := hS1.step hr hfree (Nat.le_refl _) (Fr.refl _ _ _ _) (fun z hz => by cases hz; exact hd2) hxv
  have hafter : ∀ (u' : FrameMode), settle u' = .returning → (y.wpS P (bodyPostS P fn c₀ cs fun e u' w' => (∃ x, e = .returned x) ∧ settle u' = .returning ∧ ∃ H' m' σ', Q H' m' ∧ HR w' M0 σ' H' ∧ (∀ i, m' ≤ i → H' i = none) ∧ m ≤ m' ∧ Fr w M0 σ H w' σ' H') ((a0.put (some d1) x).put (some d2) x) ({ c₀ with mode := u' } :: cs) w) := fun u' hset => by
    refine wpS_of_wp (wp_mono (q3i hm hfree y _ _ w _ H m σ hd hS2 h) ?_)
    rintro e a w' ⟨ex, env, H', m', σ', ⟨hex, hq⟩, hS', hexr⟩
    have hres : (results fn a.tmps).run P w' = .ok (.tuple #[]) w' := by simp [results, hrs]
    rcases hex with rfl | rfl
    · cases e <;> first | exact hexr.elim | skip
      exact ⟨hS'.defers, u', rfl, _, hres, ⟨_, rfl⟩, hset, H', m', σ', hq, hS'.hr, hS'.free, hS'.le, hS'.fr⟩
    · cases e <;> first | exact hexr.elim | skip
      exact ⟨hS'.defers, u', rfl, _, hres, ⟨_, rfl⟩, hset, H', m', σ', hq, hS'.hr, hS'.free, hS'.le, hS'.fr⟩
  have hw1 : ∀ a : Act, Region.wanted o1 (yielded #[o1, o2] a.tmps) = true := fun a => by unfold Region.wanted; rw [h1b]
  have hw2 : ∀ a : Act, Region.wanted o2 (yielded #[o1, o2] a.tmps) = true := fun a => by unfold Region.wanted; rw [h2b]
  have hr1 : ∀ a : Act, (execOp a.eval o1).run P w = .ok .recover w := fun a => by
    obtain ⟨dst, op, ty, pos, after, guard⟩ := o1
    simp only at h1a
    subst h1a
    rfl
  have hr2 : ∀ a : Act, (execOp a.eval o2).run P w = .ok (.value (a.eval (.tmp d1))) w := fun a => by
    obtain ⟨dst, op, ty, pos, after, guard⟩ := o2
    simp only at h2a
    subst h2a
    rfl
  refine wpS_seq (wpS_region ?_)
  show wpOpsS P #[o1, o2] _ [0, 1] a0 (c₀ :: cs) w
  simp only [wpOpsS, List.getElem?_toArray, List.getElem?_cons_zero, List.getElem?_cons_succ, hw1, hw2, if_true, hr1]
  cases pv with
  | none =>
    have hrec : recoverD (c₀ :: cs) = none := by simp [recoverD, hu, modeOf]
    have hc : ({ c₀ with mode := .returning } : Frame) = c₀ := by have : c₀.mode = .returning := hu; cases c₀; simp_all
    have := hafter .returning rfl
    rw [hc] at this
    have hx' : x = .nilIface := hx
    subst hx'
    rw [hrec]
    simp only [h1c, hr2, he1, Oper.upon, h2c, Exit.thenS]
    exact this
  | some v =>
    have hrec : recoverD (c₀ :: cs) = some (v, { c₀ with mode := .panicking [{ v, recovered := true }] } :: cs) := by simp [recoverD, hu, modeOf]
    have := hafter (.panicking [{ v, recovered := true }]) rfl
    have hx' : x = v := hx
    subst hx'
    rw [hrec]
    simp only [h1c, hr2, he1, Oper.upon, h2c, Exit.thenS]
    exact this
/-- A frame that returns: recover hands back nil, and the closure goes on behind its question. -/
theorem dsat_nil (hm : P.follows .mixedOrders = true) {g : FuncId} {fn : Func} {rid rid2 d1 d2 d6 d7 : Nat} {A B : Code} {o1 o2 o3 o4 : Oper} {ty : TypeId} {args : List PV} {H : Heap} {m : Nat} {Q : Heap → Nat → Prop} (hf : P.funcs[g]? = some fn) (hrs : fn.results = #[]) (hb : fn.body = some (.seq (.region rid #[o1, o2] false) (.seq (.region rid2 #[o3, o4] false) (.cond (.tmp d7) A B))))
    (h1 : o1.op = .call { callee := .builtin .recover, args := #[], argTypes := #[] } ∧ o1.guard = none ∧ o1.dst = some d1) (h2 : o2.op = .assign (.tmp d1) ∧ o2.guard = none ∧ o2.dst = some d2) (h3 : o3.op = .move (.tmp d2) ∧ o3.guard = none ∧ o3.dst = some d6) (h4 : (∃ rt, o4.op = .binOp .neq ty (.tmp d6) (.const .nilIface) rt) ∧ o4.guard = none ∧ o4.dst = some d7) (hty : ifcT P ty = some true)
    (hn : args.length ≤ fn.ntmps) (hd1 : d1 < fn.ntmps) (hd2 : d2 < fn.ntmps) (hd6 : d6 < fn.ntmps) (hd7 : d7 < fn.ntmps) (hd : q4o fn.ntmps B = true)
    (h : ∀ env, q0d P m B (fun ex env H' m' => (ex = .normal ∨ ex = .ret) ∧ Q H' m') env H m) : DSat P g args H m none Q := by
  obtain ⟨h1a, h1b, h1c⟩ := h1
  obtain ⟨h2a, h2b, h2c⟩ := h2
  obtain ⟨h3a, h3b, h3c⟩ := h3
  obtain ⟨⟨rt, h4a⟩, h4b, h4c⟩ := h4
  intro w M0 σ vs pv hr hfree hvl hpan
  cases pv with
  | some v => exact hpan.elim
  | none =>
  refine callsD_of_wpS hf hb fun c₀ cs hu => ?_
  have hS0 := st_init (nt := fn.ntmps) hr hfree hvl hn
  generalize ({ tmps := vs.toArray ++ Array.replicate (fn.ntmps - vs.toArray.size) undef, defers := [] } : Act) = a0 at hS0 ⊢
  have put1 : ∀ {a : Act} {env : Env} (d : Nat) (x : Value) (p : PV), St w M0 σ H m fn.ntmps [] a w env H m σ → d < fn.ntmps → VV w M0 σ H x p → St w M0 σ H m fn.ntmps [] (a.put (some d) x) w (upd env (some d) p) H m σ ∧ (a.put (some d) x).eval (.tmp d) = x := fun d x p hS hdn hv =>
    ⟨hS.step hr hfree (Nat.le_refl _) (Fr.refl _ _ _ _) (fun z hz => by cases hz; exact hdn) hv, by
      have := put_get _ (some d) x (fun z hz => by cases hz; rw [hS.size]; exact hdn) d
      rw [if_pos rfl] at this
      exact this⟩
  obtain ⟨hS1, he1⟩ := put1 d1 .nilIface .nilif hS0 hd1 .nilif
  obtain ⟨hS2, he2⟩ := put1 d2 .nilIface .nilif hS1 hd2 .nilif
  obtain ⟨hS6, he6⟩ := put1 d6 .nilIface .nilif hS2 hd6 .nilif
  obtain ⟨hS7, he7⟩ := put1 d7 (.bool false) (.bool false) hS6 hd7 (.bool false)
  have hw1 : ∀ a : Act, Region.wanted o1 (yielded #[o1, o2] a.tmps) = true := fun a => by unfold Region.wanted; rw [h1b]
  have hw2 : ∀ a : Act, Region.wanted o2 (yielded #[o1, o2] a.tmps) = true := fun a => by unfold Region.wanted; rw [h2b]
  have hw3 : ∀ a : Act, Region.wanted o3 (yielded #[o3, o4] a.tmps) = true := fun a => by unfold Region.wanted; rw [h3b]
  have hw4 : ∀ a : Act, Region.wanted o4 (yielded #[o3, o4] a.tmps) = true := fun a => by unfold Region.wanted; rw [h4b]
  have hr1 : ∀ a : Act, (execOp a.eval o1).run P w = .ok .recover w := fun a => by
    obtain ⟨dst, op, ty, pos, after, guard⟩ := o1
    simp only at h1a
    subst h1a
    rfl
  have hr2 : ∀ a : Act, (execOp a.eval o2).run P w = .ok (.value (a.eval (.tmp d1))) w := fun a => by
    obtain ⟨dst, op, ty, pos, after, guard⟩ := o2
    simp only at h2a
    subst h2a
    rfl
  have hr3 : ∀ a : Act, (execOp a.eval o3).run P w = .ok (.value (a.eval (.tmp d2))) w := fun a => by
    obtain ⟨dst, op, ty, pos, after, guard⟩ := o3
    simp only at h3a
    subst h3a
    rfl
  have hr4 : ∀ a : Act, a.eval (.tmp d6) = .nilIface → (execOp a.eval o4).run P w = .ok (.value (.bool false)) w := fun a ha => by
    obtain ⟨dst, op, ty', pos, after, guard⟩ := o4
    simp only at h4a
    subst h4a
    obtain ⟨ms, hu⟩ : ∃ ms, P.underlying ty = some (.interface ms) := by
      unfold ifcT at hty
      cases hu : P.underlying ty with
      | none => rw [hu] at hty; cases hty
      | some d =>
        rw [hu] at hty
        cases d <;> first | exact ⟨_, rfl⟩ | (simp at hty)
    have hq : ∀ d, (Op.equalIn (d + 1) ty .nilIface .nilIface).run P w = .ok true w := fun d => by simp [Op.equalIn, run_underlying hu]
    have hq : (Op.equal ty .nilIface .nilIface).run P w = .ok true w := hq 9999
    have hc : a.eval (.const .nilIface) = .nilIface := rfl
    simp [execOp, ha, hc, eqGuard, binOp, hq]
  refine wpS_seq (wpS_region ?_)
  show wpOpsS P #[o1, o2] _ [0, 1] a0 (c₀ :: cs) w
  simp only [wpOpsS, List.getElem?_toArray, List.getElem?_cons_zero, List.getElem?_cons_succ, hw1, hw2, if_true, hr1]
  have hrec : recoverD (c₀ :: cs) = none := by simp [recoverD, hu, modeOf]
  rw [hrec]
  simp only [h1c, hr2, he1, Oper.upon, h2c, Exit.thenS]
  refine wpS_of_wp (wp_seq (wp_region_list ?_))
  show wpList P #[o3, o4] _ [o3, o4] _ w
  unfold wpList
  rw [if_pos (hw3 _)]
  refine .inl ?_
  unfold Oper.wp
  rw [hr3, he2]
  simp only [Oper.upon, h3c]
  unfold wpList
  rw [if_pos (hw4 _)]
  refine .inl ?_
  unfold Oper.wp
  rw [hr4 _ he6]
  simp only [Oper.upon, h4c, wpList, Exit.then]
  refine wp_cond (t := false) he7 ?_
  refine wp_mono (q3i hm hfree B _ _ w _ H m σ hd hS7 (h _)) ?_
  have hc : ({ c₀ with mode := .returning } : Frame) = c₀ := by have : c₀.mode = .returning := hu; cases c₀; simp_all
  rintro e a w' ⟨ex, env, H', m', σ', ⟨hex, hq⟩, hS', hexr⟩
  have hres : (results fn a.tmps).run P w' = .ok (.tuple #[]) w' := by simp [results, hrs]
  rcases hex with rfl | rfl
  · cases e <;> first | exact hexr.elim | skip
    exact ⟨hS'.defers, .returning, by rw [hc], _, hres, ⟨_, rfl⟩, rfl, H', m', σ', hq, hS'.hr, hS'.free, hS'.le, hS'.fr⟩
  · cases e <;> first | exact hexr.elim | skip
    exact ⟨hS'.defers, .returning, by rw [hc], _, hres, ⟨_, rfl⟩, rfl, H', m', σ', hq, hS'.hr, hS'.free, hS'.le, hS'.fr⟩
/-- The rest of the body, behind the deferring: what it ends in, and what the closure makes of that. -/
def KY (P : Program) (rs : List ResultVar) (g : FuncId) (caps : List PV) (Q : Out → Heap → Nat → Prop) : Ex → Env → Heap → Nat → Prop
  | .normal, env, H, m => DSat P g caps H m none fun H' m' => ∃ r, q8c P rs env H' = some r ∧ Q (.ret r) H' m'
  | .ret, env, H, m => DSat P g caps H m none fun H' m' => ∃ r, q8c P rs env H' = some r ∧ Q (.ret r) H' m'
  | .pan p, env, H, m => DSat P g caps H m (some p) fun H' m' => ∃ r, q8c P rs env H' = some r ∧ Q (.ret r) H' m'
  | .exit _, _, _, _ => False
theorem wp_q {o : Oper} {a : Act} {w : World} {K : Act → World → Prop} {Q Q' : Exit → Act → World → Prop} (h : o.wp P a w K Q) (hq : ∀ ch a w, Q (.panic ch) a w → Q' (.panic ch) a w) (ho : ∀ a w, Q .outgrown a w → Q' .outgrown a w) : o.wp P a w K Q' := by
  unfold Oper.wp at *
  generalize (execOp a.eval o).run P w = r at *
  cases r with
  | ok n w' =>
    cases n <;> simp only [Oper.upon] at h ⊢ <;>
      first
        | exact h
        | exact Calls.mono h (fun e w'' he => by
            cases e <;> first
              | exact he
              | exact hq _ _ _ he
              | (obtain ⟨a, w, k⟩ := he; exact ⟨a, w, ho _ _ k⟩))
  | halt x w' => cases x <;> simp only [Oper.upon] at h ⊢ <;> first | exact h | exact hq _ _ _ h
/-- What stands ahead of a code's rest. -/
inductive Front : Code → Code → Code → Prop
  | one {x z : Code} : Front x z (.seq x z)
  | more {c x z b : Code} (h : Front x z b) : Front (.seq c x) z (.seq c b)
theorem front_wp (hm : P.follows .mixedOrders = true) {w0 : World} {M0 : Nat → Nat → Prop} {σ0 : Nat → Gh} {H0 : Heap} {m0 nt : Nat} {ds : List Deferred} (hfree : ∀ i, m0 ≤ i → H0 i = none) {R : Exit → Act → World → Prop} {x z b : Code} (hF : Front x z b) :
    ∀ {K : Env → Heap → Nat → Prop} {a : Act} {w : World} {env : Env} {H : Heap} {m : Nat} {σ : Nat → Gh}, q4o nt x = true → St w0 M0 σ0 H0 m0 nt ds a w env H m σ → q0d P m0 x (fun ex env H' m' => ex = .normal ∧ K env H' m') env H m →
      (∀ a' w' env' H' m' σ', K env' H' m' → St w0 M0 σ0 H0 m0 nt ds a' w' env' H' m' σ' → z.wp P R a' w') → b.wp P R a w := by
  induction hF with
  | one =>
    intro K a w env H m σ hd hS h hz
    refine wp_seq (wp_mono (q3i hm hfree _ _ a w env H m σ hd hS h) ?_)
    rintro e a' w' ⟨ex, env', H', m', σ', ⟨rfl, hq⟩, hS', hx⟩
    cases e <;> first | exact hx.elim | skip
    exact hz _ _ _ _ _ _ hq hS'
  | more hF ih =>
    intro K a w env H m σ hd hS h hz
    simp only [q4o, Bool.and_eq_true] at hd
    refine wp_seq (wp_mono (q3i hm hfree _ _ a w env H m σ hd.1 hS h) ?_)
    rintro e a' w' ⟨ex, env', H', m', σ', hq, hS', hx⟩
    cases ex <;> first | exact absurd hq.1 (by intro h; cases h) | skip
    cases e <;> first | exact hx.elim | skip
    exact ih hd.2 hS' hq hz
theorem q9q (hm : P.follows .mixedOrders = true) {f g : FuncId} {fn : Func} {rid d8 : Nat} {x y b : Code} {o1 o2 : Oper} {args : List PV} {H : Heap} {m : Nat} {Q : Out → Heap → Nat → Prop} (hf : P.funcs[f]? = some fn) (hb : fn.body = some b) (hF : Front x (.seq (.region rid #[o1, o2] false) y) b) (hent : q3w P g = true)
    (h1d : ∀ z, o1.dst = some z → z < fn.ntmps) (h2 : o2.op = .defer { callee := .value (.tmp d8), args := #[], argTypes := #[] } ∧ o2.guard = none ∧ o2.dst = none) (hn : args.length ≤ fn.ntmps) (hdx : q4o fn.ntmps x = true) (hdy : q4o fn.ntmps y = true)
    (h : q0d P m x (fun ex env H' m' => ex = .normal ∧ q0i P #[o1, o2] (fun ex env' H2 m2 => ex = .normal ∧ ∃ caps, env' d8 = .fn (.func g) [] caps ∧ q0d P m2 y (KY P fn.results.toList g caps Q) env' H2 m2) [o1] env H' m') (q5a args) H m) : CSat P f args H m Q := by
  obtain ⟨h2a, h2b, h2c⟩ := h2
  intro w M0 σ vs hr hfree hvl
  refine calls_of_wp_defers hf hb ?_
  have hS0 := st_init (nt := fn.ntmps) hr hfree hvl hn
  refine front_wp hm hfree hF hdx hS0 h ?_
  intro a w1 env H1 m1 σ1 hq hS1
  refine wp_seq (wp_region_list ?_)
  have hw2 : ∀ a : Act, Region.wanted o2 (yielded #[o1, o2] a.tmps) = true := fun a => by unfold Region.wanted; rw [h2b]
  have fin : ∀ (a' : Act) (w' : World) (env' : Env) (H2 : Heap) (m2 : Nat) (σ2 : Nat → Gh), (∃ caps, env' d8 = .fn (.func g) [] caps ∧ q0d P m2 y (KY P fn.results.toList g caps Q) env' H2 m2) → St w M0 σ H m fn.ntmps [] a' w' env' H2 m2 σ2 →
      wpList P #[o1, o2] (Exit.then (y.wp P (bodyPostD P fn fun e w' => ∃ out H' m' σ', Q out H' m' ∧ HR w' M0 σ' H' ∧ (∀ i, m' ≤ i → H' i = none) ∧ m ≤ m' ∧ Fr w M0 σ H w' σ' H' ∧ OutR w' M0 σ' H' e out)) (bodyPostD P fn fun e w' => ∃ out H' m' σ', Q out H' m' ∧ HR w' M0 σ' H' ∧ (∀ i, m' ≤ i → H' i = none) ∧ m ≤ m' ∧ Fr w M0 σ H w' σ' H' ∧ OutR w' M0 σ' H' e out)) [o2] a' w' := by
    rintro a' w2 env' H2 m2 σ2 ⟨caps, hd8, hy⟩ hS2
    have hv := hS2.eval (.tmp d8)
    simp only [rho] at hv
    rw [hd8] at hv
    generalize hev : a'.eval (.tmp d8) = fv at hv
    cases hv with
    | fn _ fs cs _ _ l1 l2 r1 r2 =>
      have hfs : fs = [] := List.eq_nil_of_length_eq_zero l1
      subst hfs
      have hrun : (execOp a'.eval o2).run P w2 = .ok (.defer { target := .fn (.func g) cs.toArray, args := #[] }) w2 := by
        obtain ⟨dst, op, ty, pos, after, guard⟩ := o2
        simp only at h2a
        subst h2a
        simp [execOp, resolve, hev, Deferred.ofValue]
      have hinv : ∀ w3 : World, (invoke (.fn (.func g) cs.toArray) #[]).run P w3 = .ok (.enter g cs.toArray) w3 := fun w3 => by
        unfold q3w at hent
        split at hent
        · rename_i fn' hfn
          simp only [Bool.and_eq_true, Bool.not_eq_true'] at hent
          have hbn : fn'.body.isNone = false := by cases hbb : fn'.body <;> simp_all
          simp only [invoke, callFunc, Sem.run_bind, run_program, Result.andThen_ok, hfn, hent.2, hbn, Bool.false_eq_true, if_false, Sem.run_pure]
          simp
        · cases hent
      unfold wpList
      rw [if_pos (hw2 a')]
      refine .inl ?_
      unfold Oper.wp
      rw [hrun]
      simp only [Oper.upon, wpList, Exit.then, h2c, Act.put]
      have hS3 : St w2 M0 σ2 H2 m2 fn.ntmps [{ target := .fn (.func g) cs.toArray, args := #[] }] { a' with defers := { target := .fn (.func g) cs.toArray, args := #[] } :: a'.defers } w2 env' H2 m2 σ2 := ⟨hS2.hr, hS2.free, Nat.le_refl _, Fr.refl _ _ _ _, hS2.size, by rw [hS2.defers], hS2.env⟩
      refine wp_mono (q3i hm hS2.free y _ _ w2 _ H2 m2 σ2 hdy hS3 hy) ?_
      rintro e a3 w3 ⟨ex, env3, H3, m3, σ3, hq3, hS4, hx3⟩
      have hcaps : VL w3 (MU M0 σ3 H3) σ3 (LV H3) cs caps := ⟨l2, fun i v p hv hp => (r2 i v p hv hp).mono hS4.fr.ext⟩
      have key : ∀ (pv : Option Value) (p : Option PV), PanR w3 M0 σ3 H3 pv p → modeOf pv ≠ .run → DSat P g caps H3 m3 p (fun H' m' => ∃ r, q8c P fn.results.toList env3 H' = some r ∧ Q (.ret r) H' m') →
          Leaves P fn a3.tmps (fun e w' => ∃ out H' m' σ', Q out H' m' ∧ HR w' M0 σ' H' ∧ (∀ i, m' ≤ i → H' i = none) ∧ m ≤ m' ∧ Fr w M0 σ H w' σ' H' ∧ OutR w' M0 σ' H' e out) a3.defers (modeOf pv) w3 := fun pv p hpan hmode hds => by
        rw [hS4.defers]
        refine leaves_cons hmode (hinv w3) ((hds w3 M0 σ3 cs pv hS4.hr hS4.free hcaps hpan).mono ?_)
        rintro e u' w4 ⟨⟨x, rfl⟩, hset, H4, m4, σ4, ⟨r, hres, hQ⟩, hr4, hf4, hm4, hfr4⟩
        simp only
        rw [hset]
        obtain ⟨v, hv1, hv2⟩ := q9u (P := P) (a := a3) hr4 (fun t => (hS4.env t).mono hfr4.ext) hres
        exact ⟨v, hv1, .ret r, H4, m4, σ4, hQ, hr4, hf4, by have := hS2.le; have := hS4.le; omega, (hS2.fr.trans hS4.fr).trans hfr4, hv2⟩
      cases e with
      | normal =>
        cases ex <;> first | exact hx3.elim | skip
        exact key none none trivial (by intro h; cases h) hq3
      | ret =>
        cases ex <;> first | exact hx3.elim | skip
        exact key none none trivial (by intro h; cases h) hq3
      | panic ch =>
        cases ex <;> first | exact hx3.elim | skip
        obtain ⟨v, rfl, hv⟩ := hx3
        exact key (some v) (some _) hv (by intro h; cases h) hq3
      | exit id => cases ex <;> first | exact hx3.elim | exact hq3.elim
      | goto l => cases ex <;> exact hx3.elim
      | outgrown => cases ex <;> exact hx3.elim
  have hop := q8z (P := P) (ops := #[o1, o2]) hS1 h1d (K' := wpList P #[o1, o2] (Exit.then (y.wp P (bodyPostD P fn fun e w' => ∃ out H' m' σ', Q out H' m' ∧ HR w' M0 σ' H' ∧ (∀ i, m' ≤ i → H' i = none) ∧ m ≤ m' ∧ Fr w M0 σ H w' σ' H' ∧ OutR w' M0 σ' H' e out)) (bodyPostD P fn fun e w' => ∃ out H' m' σ', Q out H' m' ∧ HR w' M0 σ' H' ∧ (∀ i, m' ≤ i → H' i = none) ∧ m ≤ m' ∧ Fr w M0 σ H w' σ' H' ∧ OutR w' M0 σ' H' e out)) [o2]) (fun a' w' env' H2 m2 σ2 hk hS => fin a' w' env' H2 m2 σ2 hk.2 hS) hq
  show wpList P #[o1, o2] _ (o1 :: [o2]) a w1
  unfold wpList
  split
  · rename_i hw
    rw [if_pos hw] at hop
    refine .inl (wp_q hop ?_ ?_)
    · rintro ch a' w' ⟨ex, env', H', m', σ', ⟨rfl, _⟩, _, hF⟩
      exact hF.elim
    · rintro a' w' ⟨ex, env', H', m', σ', ⟨rfl, _⟩, _, hF⟩
      exact hF.elim
  · rename_i hw
    rw [if_neg hw] at hop
    exact hop
theorem csat_deferred (hm : P.follows .mixedOrders = true) {f g : FuncId} {fn : Func} {rid d8 : Nat} {x y : Code} {o1 o2 : Oper} {args : List PV} {H : Heap} {m : Nat} {Q : Out → Heap → Nat → Prop} (hf : P.funcs[f]? = some fn) (hb : fn.body = some (.seq x (.seq (.region rid #[o1, o2] false) y))) (hent : q3w P g = true)
    (h1d : ∀ z, o1.dst = some z → z < fn.ntmps) (h2 : o2.op = .defer { callee := .value (.tmp d8), args := #[], argTypes := #[] } ∧ o2.guard = none ∧ o2.dst = none) (hn : args.length ≤ fn.ntmps) (hdx : q4o fn.ntmps x = true) (hdy : q4o fn.ntmps y = true)
    (h : q0d P m x (fun ex env H' m' => ex = .normal ∧ q0i P #[o1, o2] (fun ex env' H2 m2 => ex = .normal ∧ ∃ caps, env' d8 = .fn (.func g) [] caps ∧ q0d P m2 y (KY P fn.results.toList g caps Q) env' H2 m2) [o1] env H' m') (q5a args) H m) : CSat P f args H m Q :=
  q9q hm hf hb .one hent h1d h2 hn hdx hdy h
end
end Go.Proofs.YtoibbedpaaeclaaGreat
end

section
namespace Go.Proofs.YtoibbedpaaeclaaGreat
open Go Go.RowKit
set_option linter.unusedVariables false
set_option linter.unusedSimpArgs false
set_option maxHeartbeats 16000000
set_option maxRecDepth 100000
attribute [go_sem] q1m
theorem dir_ris {w : Wd} {t : Ob} {id : Int} {b : Bool} (hf : FewW w) (hw : q6s w = true) : RisZ (dirR w t id b).1.links := by
  unfold dirR
  split
  · rename_i hc
    simp only [Bool.and_eq_true] at hc
    split
    · exact okay_links (x0q hf hw id) hc.2.1
    · exact fun i j x y hx => by simp [Ob.zero] at hx
  · exact fun i j x y hx => by simp [Ob.zero] at hx
theorem look_okay {w : Wd} {t : Ob} {r : Rf} (hf : FewW w) (hw : q6s w = true) : Okay (q7g w t r).1 := by
  have hz : Okay Ob.zero := ⟨Nat.zero_le _, .inr rfl⟩
  unfold q7g
  split
  · split
    · exact x0q hf hw _
    · exact hz
  · exact hz
@[go_sem] theorem cut1_int (v : PV) : cut Tryz.prog 3 [v] 0 = some v := by kernel_rfl
@[go_sem] theorem cut1_u64 (v : PV) : cut Tryz.prog 22 [v] 0 = some v := by kernel_rfl
@[go_sem] theorem cut1_bool (v : PV) : cut Tryz.prog 4 [v] 0 = some v := by kernel_rfl
@[go_sem] theorem cut1_err (v : PV) : cut Tryz.prog 50 [v] 0 = some v := by kernel_rfl
attribute [local irreducible] q0i dr q0d Ex.then Ex.inBlock retQ q1l q2j q2g Pure CSat evOp q1i rdOf upd hset strip sp0 cut envL q1g q3q Keep BdL evBs q2s q3c
theorem named_csat {H : Heap} {m i : Nat} (t : Ob) (w : Wd) (r : Rf) (hb : H i = some (.box (q6u t w))) (hi : i < m) (ht : q3k t.label = true) (htl : t.label.length ≤ 20) (hf : FewW w) (hw : q6s w = true) :
    CSat Tryz.prog 258 [.ptr i 0, .agg (Rf.enc r)] H m (fun out H' m' => out = outE (q7g w t r) ∧ m ≤ m' ∧ ∀ j, j < m → H' j = H j) := by
  have hn := hf.n
  have h2 := obj_find w r.id (by omega) (q5n hw).1
  rw [findO_eq (q5n hw).1] at h2
  have hl := (dirR_few hf t r.cont false).2
  have hris := dir_ris (t := t) (id := r.cont) (b := false) hf hw
  have dirC := fun (H : Heap) (m : Nat) (hb : H i = some (.box (q6u t w))) (hi : i < m) => dir_csat (H := H) (m := m) t w r.cont false hb hi ht htl hf hw
  have n0 : (i = m) = False := eq_false (by omega)
  have n1 : (i = m + 1) = False := eq_false (by omega)
  unfold q7g
  generalize dirR w t r.cont false = D at dirC hl hris ⊢
  obtain ⟨d, e⟩ := D
  simp only at hl hris ⊢
  have h3 := bin_search d.links r.id (by omega) hris
  cases he : (e == 0) with
  | false =>
    have hoe : outE (d, e) = .pan (thr e) := by unfold outE; rw [if_neg (by rw [he]; simp)]
    have hoz : outE (Ob.zero, e) = .pan (thr e) := by unfold outE; rw [if_neg (by rw [he]; simp)]
    rw [hoe] at dirC
    simp only [Bool.false_eq_true, if_false]
    rw [hoz]
    refine q4u (by kernel_rfl) Tryz.func258 Tryz.results258 rfl (by simp [Tryz.ntmps258]) (by kernel_rfl) ?_
    repeat' (first | (show q0i ..; first | refine q0c ?_ | refine q0e rfl ?_) | (show q0k ..; first | refine q0f rfl rfl ?_ | refine q0m rfl ?_) | (show goOn ..; first | refine q0g ?_ | refine q1d ?_) | (show q0d ..; first | refine q0h ?_ | refine q0b ?_) | refine q0a ?_)
    (refine q0w (by kernel_rfl) (dirC _ _ (by simp only [go_sem, *]) (by omega)) ?_ ?_)
    case refine_1 => rintro r H' m' ⟨h, _⟩; cases h
    rintro p H1 m1 ⟨h, L1, A1⟩
    cases h
    repeat' (first | refine q4k ?_ | refine q4y ?_ | refine q4w ?_)
    exact ⟨rfl, by omega, (fun j hj => by rw [A1 j (by omega)]; repeat rw [q1a _ _ (by omega)])⟩
  | true =>
    have hoe : outE (d, e) = .ret (.agg (Ob.enc d)) := by unfold outE; rw [if_pos he]
    rw [hoe] at dirC
    simp only [if_true]
    generalize d.links.any (· == r.id) = b at h3 ⊢
    refine q4u (by kernel_rfl) Tryz.func258 Tryz.results258 rfl (by simp [Tryz.ntmps258]) (by kernel_rfl) ?_
    repeat' (first | (show q0i ..; first | refine q0c ?_ | refine q0e rfl ?_) | (show q0k ..; first | refine q0f rfl rfl ?_ | refine q0m rfl ?_) | (show goOn ..; first | refine q0g ?_ | refine q1d ?_) | (show q0d ..; first | refine q0h ?_ | refine q0b ?_) | refine q0a ?_)
    (refine q0w (by kernel_rfl) (dirC _ _ (by simp only [go_sem, *]) (by omega)) ?_ ?_)
    case refine_2 => rintro p H' m' ⟨h, _⟩; cases h
    rintro r H1 m1 ⟨h, L1, A1⟩
    cases h
    have low : ∀ j, j < m → H1 j = H j := fun j hj => by rw [A1 j (by omega)]; repeat rw [q1a _ _ (by omega)]
    have c0 : H1 i = some (.box (q6u t w)) := by rw [A1 i (by omega)]; simp only [go_sem, *]
    have c1 : H1 (m + 1) = some (.box (Ob.enc Ob.zero)) := by rw [A1 (m + 1) (by omega)]; simp only [go_sem, *]
    have c2 : H1 m = some (.box (Rf.enc r)) := by rw [A1 m (by omega)]; simp only [go_sem, *]
    clear A1 dirC
    have k0 : (i = m1) = False := eq_false (by omega)
    have k1 : (m = m1) = False := eq_false (by omega)
    have k2 : (m + 1 = m1) = False := eq_false (by omega)
    have k3 : (i = m1 + 1) = False := eq_false (by omega)
    have k4 : (m = m1 + 1) = False := eq_false (by omega)
    have k5 : (m + 1 = m1 + 1) = False := eq_false (by omega)
    have k6 : (m1 = m) = False := eq_false (by omega)
    have k7 : (m1 = m + 1) = False := eq_false (by omega)
    cases b with
    | false =>
      repeat' (first | (show q0i ..; first | refine q0c ?_ | refine q0e rfl ?_) | (show q0k ..; first | refine q0f rfl rfl ?_ | refine q0m rfl ?_) | (show goOn ..; first | refine q0g ?_ | refine q1d ?_ | refine q1x ?_) | (show q3f ..; refine q1h ?_) | (show q1j ..; (refine q0u (r := ?_) ?_ ?_; rotate_left 1; (focus exact h3))) | (show q0d ..; first | refine q0h ?_ | refine q0b ?_) | refine q0a ?_)
      (refine q0w (by kernel_rfl) (must_no _ _ _ _) ?_ ?_)
      case refine_1 => rintro r H' m' ⟨h, _⟩; cases h
      rintro p H' m' ⟨h, rfl, rfl⟩
      cases h
      repeat' (first | refine q4k ?_ | refine q4y ?_ | refine q4w ?_)
      exact ⟨rfl, by omega, (fun j hj => by (repeat rw [q1a _ _ (by omega)]); exact low j hj)⟩
    | true =>
      repeat' (first | (show q0i ..; first | refine q0c ?_ | refine q0e rfl ?_) | (show q0k ..; first | refine q0f rfl rfl ?_ | refine q0m rfl ?_) | (show goOn ..; first | refine q0g ?_ | refine q1d ?_ | refine q1x ?_) | (show q3f ..; refine q1h ?_) | (show q1j ..; (refine q0u (r := ?_) ?_ ?_; rotate_left 1; (focus exact h3))) | (show q0d ..; first | refine q0h ?_ | refine q0b ?_) | refine q0a ?_)
      (refine q0w (by kernel_rfl) (must_yes _ _ _ _) ?_ ?_)
      case refine_2 => rintro p H' m' ⟨⟨_, h⟩, _⟩; cases h
      rintro r H' m' ⟨⟨_, h⟩, rfl, rfl⟩
      clear h
      have b0 : (i == m1 + 1) = false := by simp; omega
      have b1 : (m == m1 + 1) = false := by simp; omega
      have b2 : (m1 + 1 == i) = false := by simp; omega
      have b3 : (m1 + 1 == m) = false := by simp; omega
      repeat' (first | (show q0i ..; refine q0c ?_) | (show dr ..; first | refine q1y ?_ | refine dr_n rfl ?_) | (show drGo ..; first | refine q3b rfl ?_ | refine q2l rfl ?_) | (show drOn ..; first | refine q1z ?_ | refine dn_new ?_ | refine q7m ?_) | (show q5w ..; refine q4t ?_) | (show q2h ..; (refine q1f (r := ?_) ?_ ?_; rotate_left 1; (focus exact h2))) | (show q0d ..; first | refine q0h ?_ | refine q1k (by kernel_rfl) ?_) | refine q0a ?_)
      refine And.intro (by simp [q1l, okPair, q6y, Eff.wr, Rg.meets, rdOf, go_sem, b0, b1, b2, b3]) ?_
      repeat' (first | (show q0i ..; first | refine q0c ?_ | refine q0e rfl ?_) | (show q0k ..; refine q0f rfl rfl ?_) | (show goOn ..; first | refine q0g ?_ | refine q1x ?_) | (show q3f ..; refine q1h ?_) | (show q0d ..; first | refine q0h ?_ | refine q0b ?_ | refine q0r ?_) | refine q0a ?_ | (show retQ ..; refine q0s ?_) | refine q0l ?_)
      exact ⟨rfl, by omega, fun j hj => by (repeat rw [q1a _ _ (by omega)]); exact low j hj⟩
theorem seen_csat {H : Heap} {m i : Nat} (t : Ob) (w : Wd) (r : Rf) (kind : Int) (hb : H i = some (.box (q6u t w))) (hi : i < m) (ht : q3k t.label = true) (htl : t.label.length ≤ 20) (hf : FewW w) (hw : q6s w = true) :
    CSat Tryz.prog 223 [.ptr i 0, .agg (Rf.enc r), .int .i64 kind] H m (fun out H' m' => out = outE (seeR w t r kind) ∧ m ≤ m' ∧ ∀ j, j < m → H' j = H j) := by
  have hok := look_okay (t := t) (r := r) hf hw
  have namC := fun (H : Heap) (m : Nat) (hb : H i = some (.box (q6u t w))) (hi : i < m) => named_csat (H := H) (m := m) t w r hb hi ht htl hf hw
  have n0 : (i = m) = False := eq_false (by omega)
  have n1 : (i = m + 1) = False := eq_false (by omega)
  unfold seeR
  generalize q7g w t r = D at namC hok ⊢
  obtain ⟨o, e⟩ := D
  simp only at hok ⊢
  have seesC := fun (H : Heap) (m : Nat) (hb : H i = some (.box (q6u t w))) (hi : i < m) => sees_csat (H := H) (m := m) t w o hb hi ht htl hok
  generalize x0j t o = b2 at seesC ⊢
  cases he : (e == 0) with
  | false =>
    have hoe : outE (o, e) = .pan (thr e) := by unfold outE; rw [if_neg (by rw [he]; simp)]
    have hoz : outE (Ob.zero, e) = .pan (thr e) := by unfold outE; rw [if_neg (by rw [he]; simp)]
    rw [hoe] at namC
    simp only [Bool.false_eq_true, if_false]
    rw [hoz]
    refine q4u (by kernel_rfl) Tryz.func223 Tryz.results223 rfl (by simp [Tryz.ntmps223]) (by kernel_rfl) ?_
    repeat' (first | (show q0i ..; first | refine q0c ?_ | refine q0e rfl ?_) | (show q0k ..; first | refine q0f rfl rfl ?_ | refine q0m rfl ?_) | (show goOn ..; first | refine q0g ?_ | refine q1d ?_) | (show q0d ..; first | refine q0h ?_ | refine q0b ?_) | refine q0a ?_)
    (refine q0w (by kernel_rfl) (namC _ _ (by simp only [go_sem, *]) (by omega)) ?_ ?_)
    case refine_1 => rintro r H' m' ⟨h, _⟩; cases h
    rintro p H1 m1 ⟨h, L1, A1⟩
    cases h
    repeat' (first | refine q4k ?_ | refine q4y ?_ | refine q4w ?_)
    exact ⟨rfl, by omega, (fun j hj => by rw [A1 j (by omega)]; repeat rw [q1a _ _ (by omega)])⟩
  | true =>
    have hoe : outE (o, e) = .ret (.agg (Ob.enc o)) := by unfold outE; rw [if_pos he]
    rw [hoe] at namC
    simp only [if_true]
    refine q4u (by kernel_rfl) Tryz.func223 Tryz.results223 rfl (by simp [Tryz.ntmps223]) (by kernel_rfl) ?_
    repeat' (first | (show q0i ..; first | refine q0c ?_ | refine q0e rfl ?_) | (show q0k ..; first | refine q0f rfl rfl ?_ | refine q0m rfl ?_) | (show goOn ..; first | refine q0g ?_ | refine q1d ?_) | (show q0d ..; first | refine q0h ?_ | refine q0b ?_) | refine q0a ?_)
    (refine q0w (by kernel_rfl) (namC _ _ (by simp only [go_sem, *]) (by omega)) ?_ ?_)
    case refine_2 => rintro p H' m' ⟨h, _⟩; cases h
    rintro r H1 m1 ⟨h, L1, A1⟩
    cases h
    have low : ∀ j, j < m → H1 j = H j := fun j hj => by rw [A1 j (by omega)]; repeat rw [q1a _ _ (by omega)]
    have c0 : H1 i = some (.box (q6u t w)) := by rw [A1 i (by omega)]; simp only [go_sem, *]
    have c1 : H1 (m + 1) = some (.box (Ob.enc Ob.zero)) := by rw [A1 (m + 1) (by omega)]; simp only [go_sem, *]
    clear A1 namC
    have k0 : (i = m1) = False := eq_false (by omega)
    have k2 : (m + 1 = m1) = False := eq_false (by omega)
    have k7 : (m1 = m + 1) = False := eq_false (by omega)
    cases hb3 : ((kind == 0) || (o.kind == kind)) with
    | false =>
      rw [Bool.or_eq_false_iff] at hb3
      obtain ⟨g1, g2⟩ := hb3
      repeat' (first | (show q0i ..; first | refine q0c ?_ | refine q0e rfl ?_ | refine q1b rfl rfl ?_) | (show q0k ..; first | refine q0f rfl rfl ?_ | refine q0m rfl ?_) | (show goOn ..; first | refine q0g ?_ | refine q1d ?_ | refine q1x ?_) | (show q3f ..; refine q1h ?_) | (show wGo ..; refine q4e ?_) | (show q0d ..; first | refine q0h ?_ | refine q0b ?_) | refine q0a ?_)
      (refine q0w (by kernel_rfl) (must_no _ _ _ _) ?_ ?_)
      case refine_1 => rintro r H' m' ⟨h, _⟩; cases h
      rintro p H' m' ⟨h, rfl, rfl⟩
      cases h
      repeat' (first | refine q4k ?_ | refine q4y ?_ | refine q4w ?_)
      exact ⟨rfl, by omega, (fun j hj => by (repeat rw [q1a _ _ (by omega)]); exact low j hj)⟩
    | true =>
      simp only [if_true]
      have fin : ∀ (E2 : Heap) (M2 : Nat), True := fun _ _ => trivial
      cases hg1 : (kind == 0) with
      | true =>
        repeat' (first | (show q0i ..; first | refine q0c ?_ | refine q0e rfl ?_ | refine q1b rfl rfl ?_) | (show q0k ..; first | refine q0f rfl rfl ?_ | refine q0m rfl ?_) | (show goOn ..; first | refine q0g ?_ | refine q1d ?_ | refine q1x ?_) | (show q3f ..; refine q1h ?_) | (show wGo ..; refine q5b ?_) | (show q0d ..; first | refine q0h ?_ | refine q0b ?_) | refine q0a ?_)
        (refine q0w (by kernel_rfl) (must_yes _ _ _ _) ?_ ?_)
        case refine_2 => rintro p H' m' ⟨⟨_, h⟩, _⟩; cases h
        rintro r H' m' ⟨⟨_, h⟩, rfl, rfl⟩
        clear h
        repeat' (first | (show q0i ..; first | refine q0c ?_ | refine q0e rfl ?_) | (show q0k ..; first | refine q0f rfl rfl ?_ | refine q0m rfl ?_) | (show goOn ..; refine q0g ?_) | (show q0d ..; first | refine q0h ?_ | refine q0b ?_) | refine q0a ?_)
        (refine q0w (by kernel_rfl) (seesC _ _ (by simp only [go_sem, *]) (by omega)) ?_ ?_)
        case refine_2 => rintro p H' m' ⟨h, _⟩; cases h
        rintro r H2 m2 ⟨h, L2, A2⟩
        cases h
        have low2 : ∀ j, j < m → H2 j = H j := fun j hj => by rw [A2 j (by omega)]; (repeat rw [q1a _ _ (by omega)]); exact low j hj
        have e1 : H2 (m + 1) = some (.box (Ob.enc Ob.zero)) := by rw [A2 (m + 1) (by omega)]; simp only [go_sem, *]
        have e2 : H2 m1 = some (.box (Ob.enc o)) := by rw [A2 m1 (by omega)]; simp only [go_sem, *]
        clear A2 seesC
        cases b2 with
        | false =>
          repeat' (first | (show q0i ..; refine q0e rfl ?_) | (show q0k ..; refine q0m rfl ?_))
          (refine q0w (by kernel_rfl) (must_no _ _ _ _) ?_ ?_)
          case refine_1 => rintro r H' m' ⟨h, _⟩; cases h
          rintro p H' m' ⟨h, rfl, rfl⟩
          cases h
          repeat' (first | refine q4k ?_ | refine q4y ?_ | refine q4w ?_)
          exact ⟨rfl, by omega, low2⟩
        | true =>
          repeat' (first | (show q0i ..; refine q0e rfl ?_) | (show q0k ..; refine q0m rfl ?_))
          (refine q0w (by kernel_rfl) (must_yes _ _ _ _) ?_ ?_)
          case refine_2 => rintro p H' m' ⟨⟨_, h⟩, _⟩; cases h
          rintro r H' m' ⟨⟨_, h⟩, rfl, rfl⟩
          clear h
          repeat' (first | (show q0i ..; first | refine q0c ?_ | refine q0e rfl ?_) | (show q0k ..; refine q0f rfl rfl ?_) | (show goOn ..; first | refine q0g ?_ | refine q1x ?_) | (show q3f ..; refine q1h ?_) | (show q0d ..; first | refine q0h ?_ | refine q0b ?_ | refine q0r ?_) | refine q0a ?_ | (show retQ ..; refine q0s ?_) | refine q0l ?_)
          exact ⟨rfl, by omega, fun j hj => by (repeat rw [q1a _ _ (by omega)]); exact low2 j hj⟩
      | false =>
        rw [hg1, Bool.false_or] at hb3
        repeat' (first | (show q0i ..; first | refine q0c ?_ | refine q0e rfl ?_ | refine q1b rfl rfl ?_) | (show q0k ..; first | refine q0f rfl rfl ?_ | refine q0m rfl ?_) | (show goOn ..; first | refine q0g ?_ | refine q1d ?_ | refine q1x ?_) | (show q3f ..; refine q1h ?_) | (show wGo ..; refine q4e ?_) | (show q0d ..; first | refine q0h ?_ | refine q0b ?_) | refine q0a ?_)
        (refine q0w (by kernel_rfl) (must_yes _ _ _ _) ?_ ?_)
        case refine_2 => rintro p H' m' ⟨⟨_, h⟩, _⟩; cases h
        rintro r H' m' ⟨⟨_, h⟩, rfl, rfl⟩
        clear h
        repeat' (first | (show q0i ..; first | refine q0c ?_ | refine q0e rfl ?_) | (show q0k ..; first | refine q0f rfl rfl ?_ | refine q0m rfl ?_) | (show goOn ..; refine q0g ?_) | (show q0d ..; first | refine q0h ?_ | refine q0b ?_) | refine q0a ?_)
        (refine q0w (by kernel_rfl) (seesC _ _ (by simp only [go_sem, *]) (by omega)) ?_ ?_)
        case refine_2 => rintro p H' m' ⟨h, _⟩; cases h
        rintro r H2 m2 ⟨h, L2, A2⟩
        cases h
        have low2 : ∀ j, j < m → H2 j = H j := fun j hj => by rw [A2 j (by omega)]; (repeat rw [q1a _ _ (by omega)]); exact low j hj
        have e1 : H2 (m + 1) = some (.box (Ob.enc Ob.zero)) := by rw [A2 (m + 1) (by omega)]; simp only [go_sem, *]
        have e2 : H2 m1 = some (.box (Ob.enc o)) := by rw [A2 m1 (by omega)]; simp only [go_sem, *]
        clear A2 seesC
        cases b2 with
        | false =>
          repeat' (first | (show q0i ..; refine q0e rfl ?_) | (show q0k ..; refine q0m rfl ?_))
          (refine q0w (by kernel_rfl) (must_no _ _ _ _) ?_ ?_)
          case refine_1 => rintro r H' m' ⟨h, _⟩; cases h
          rintro p H' m' ⟨h, rfl, rfl⟩
          cases h
          repeat' (first | refine q4k ?_ | refine q4y ?_ | refine q4w ?_)
          exact ⟨rfl, by omega, low2⟩
        | true =>
          repeat' (first | (show q0i ..; refine q0e rfl ?_) | (show q0k ..; refine q0m rfl ?_))
          (refine q0w (by kernel_rfl) (must_yes _ _ _ _) ?_ ?_)
          case refine_2 => rintro p H' m' ⟨⟨_, h⟩, _⟩; cases h
          rintro r H' m' ⟨⟨_, h⟩, rfl, rfl⟩
          clear h
          repeat' (first | (show q0i ..; first | refine q0c ?_ | refine q0e rfl ?_) | (show q0k ..; refine q0f rfl rfl ?_) | (show goOn ..; first | refine q0g ?_ | refine q1x ?_) | (show q3f ..; refine q1h ?_) | (show q0d ..; first | refine q0h ?_ | refine q0b ?_ | refine q0r ?_) | refine q0a ?_ | (show retQ ..; refine q0s ?_) | refine q0l ?_)
          exact ⟨rfl, by omega, fun j hj => by (repeat rw [q1a _ _ (by omega)]); exact low2 j hj⟩
/-- What a closure is given: a finder in a box of its own. -/
def ClC (g : FuncId) (cap : List PV) (t : Ob) (w : Wd) (H0 : Heap) (m0 : Nat) (R : Ob × Int) : Prop :=
  ∀ (H : Heap) (m i : Nat), m0 ≤ i → i < m → (∀ j, j < m0 → H j = H0 j) → H i = some (.box (q6u t w)) → CSat Tryz.prog g ([.ptr i 0] ++ cap) H m (fun out H' m' => out = outE R ∧ m ≤ m' ∧ ∀ j, j < m → H' j = H j)
theorem see1 {H0 : Heap} {m0 c k : Nat} (t : Ob) (w : Wd) (r : Rf) (kind : Int) (hc : H0 c = some (.box (Rf.enc r))) (hcm : c < m0) (hk : H0 k = some (.box [.int .i64 kind])) (hkm : k < m0) (ht : q3k t.label = true) (htl : t.label.length ≤ 20) (hf : FewW w) (hw : q6s w = true) : ClC 222 [.ptr c 0, .ptr k 0] t w H0 m0 (seeR w t r kind) := by
  intro H m i hi him hH hb
  have hcc : H c = some (.box (Rf.enc r)) := by rw [hH c hcm]; exact hc
  have hkk : H k = some (.box [.int .i64 kind]) := by rw [hH k hkm]; exact hk
  have n0 : (i = m) = False := eq_false (by omega)
  have n1 : (c = m) = False := eq_false (by omega)
  have n2 : (k = m) = False := eq_false (by omega)
  have namC := fun (H : Heap) (m : Nat) (hb : H i = some (.box (q6u t w))) (hi : i < m) => seen_csat (H := H) (m := m) t w r kind hb hi ht htl hf hw
  generalize seeR w t r kind = D at namC ⊢
  obtain ⟨o, e⟩ := D
  simp only [List.cons_append, List.nil_append]
  cases he : (e == 0) with
  | false =>
    have hoe : outE (o, e) = .pan (thr e) := by unfold outE; rw [if_neg (by rw [he]; simp)]
    rw [hoe] at namC ⊢
    refine q4u (by kernel_rfl) Tryz.func222 Tryz.results222 rfl (by simp [Tryz.ntmps222]) (by kernel_rfl) ?_
    repeat' (first | (show q0i ..; first | refine q0c ?_ | refine q0e rfl ?_) | (show q0k ..; first | refine q0f rfl rfl ?_ | refine q0m rfl ?_) | (show goOn ..; first | refine q0g ?_ | refine q1d ?_) | (show q0d ..; first | refine q0h ?_ | refine q0b ?_) | refine q0a ?_)
    (refine q0w (by kernel_rfl) (namC (hset H m (some (.box (Ob.enc Ob.zero)))) (m + 1) (by simp only [go_sem, *]) (by omega)) ?_ ?_)
    case refine_1 => rintro r H' m' ⟨h, _⟩; cases h
    rintro p H1 m1 ⟨h, L1, A1⟩
    cases h
    repeat' (first | refine q4k ?_ | refine q4y ?_ | refine q4w ?_)
    exact ⟨rfl, by omega, (fun j hj => by rw [A1 j (by omega)]; repeat rw [q1a _ _ (by omega)])⟩
  | true =>
    have hoe : outE (o, e) = .ret (.agg (Ob.enc o)) := by unfold outE; rw [if_pos he]
    rw [hoe] at namC ⊢
    refine q4u (by kernel_rfl) Tryz.func222 Tryz.results222 rfl (by simp [Tryz.ntmps222]) (by kernel_rfl) ?_
    repeat' (first | (show q0i ..; first | refine q0c ?_ | refine q0e rfl ?_) | (show q0k ..; first | refine q0f rfl rfl ?_ | refine q0m rfl ?_) | (show goOn ..; first | refine q0g ?_ | refine q1d ?_) | (show q0d ..; first | refine q0h ?_ | refine q0b ?_) | refine q0a ?_)
    (refine q0w (by kernel_rfl) (namC (hset H m (some (.box (Ob.enc Ob.zero)))) (m + 1) (by simp only [go_sem, *]) (by omega)) ?_ ?_)
    case refine_2 => rintro p H' m' ⟨h, _⟩; cases h
    rintro r H1 m1 ⟨h, L1, A1⟩
    cases h
    have low : ∀ j, j < m → H1 j = H j := fun j hj => by rw [A1 j (by omega)]; repeat rw [q1a _ _ (by omega)]
    have c1 : H1 m = some (.box (Ob.enc Ob.zero)) := by rw [A1 m (by omega)]; simp only [go_sem, *]
    clear A1
    repeat' (first | (show q0i ..; first | refine q0c ?_ | refine q0e rfl ?_) | (show q0k ..; refine q0f rfl rfl ?_) | (show goOn ..; refine q1x ?_) | (show q3f ..; refine q1h ?_) | (show q0d ..; refine q0r ?_) | refine q0a ?_ | (show retQ ..; refine q0s ?_) | refine q0l ?_)
    exact ⟨rfl, by omega, fun j hj => by (repeat rw [q1a _ _ (by omega)]); exact low j hj⟩
end Go.Proofs.YtoibbedpaaeclaaGreat
end

section
namespace Go.Proofs.YtoibbedpaaeclaaGreat
open Go Go.RowKit
set_option linter.unusedVariables false
set_option linter.unusedSimpArgs false
set_option maxHeartbeats 16000000
set_option maxRecDepth 100000
attribute [go_sem] q1m
@[go_sem] theorem ifc_any : ifcT Tryz.prog 20 = some true := by kernel_rfl
@[go_sem] theorem ifc_thr : ifcT Tryz.prog 283 = some false := by kernel_rfl
@[go_sem] theorem thr_zeros : zeros Tryz.prog 283 = some [.int .i64 0] := by kernel_rfl
@[go_sem] theorem err_zeros : zeros Tryz.prog 50 = some [.int .i64 0] := by kernel_rfl
@[go_sem] theorem thr_f0 : q1s Tryz.prog 283 0 = some (50, 0) := by kernel_rfl
@[go_sem] theorem spl_one (a b : PV) : splice [a] 0 [b] = [b] := rfl
@[go_sem] theorem thr_cells (e : Int) : PV.cells? (.agg [.int .i64 e]) = some [.int .i64 e] := rfl
attribute [local irreducible] q0i dr q0d Ex.then Ex.inBlock retQ q1l q2j q2g Pure CSat evOp q1i rdOf upd hset strip sp0 cut envL q1g q3q Keep BdL evBs q2s q3c
theorem rec_nil {a b : Nat} (H : Heap) (m : Nat) : DSat Tryz.prog 257 [.ptr a 0, .ptr b 0] H m none (fun H' m' => H' = H ∧ m' = m) := by
  refine dsat_nil (by kernel_rfl) Tryz.func257 Tryz.results257 rfl ⟨rfl, rfl, rfl⟩ ⟨rfl, rfl, rfl⟩ ⟨rfl, rfl, rfl⟩ ⟨⟨_, rfl⟩, rfl, rfl⟩ ifc_any (by simp [Tryz.ntmps257]) (by simp [Tryz.ntmps257]) (by simp [Tryz.ntmps257]) (by simp [Tryz.ntmps257]) (by simp [Tryz.ntmps257]) (by kernel_rfl) ?_
  intro env
  repeat' (first | (show q0d ..; refine q0q ?_))
  exact ⟨.inl rfl, rfl, rfl⟩
theorem rec_some {a b : Nat} {H : Heap} {m : Nat} (e : Int) (x : Int) (o : Ob) (ha : H a = some (.box (Ob.enc o))) (hb : H b = some (.box [.int .i64 x])) (hab : a ≠ b) (ham : a < m) (hbm : b < m) : DSat Tryz.prog 257 [.ptr a 0, .ptr b 0] H m (some (thr e)) (fun H' m' => H' a = some (.box (Ob.enc Ob.zero)) ∧ H' b = some (.box [.int .i64 e]) ∧ m ≤ m' ∧ ∀ j, j < m → j ≠ a → j ≠ b → H' j = H j) := by
  have n0 : (a = m) = False := eq_false (by omega)
  have n1 : (b = m) = False := eq_false (by omega)
  have n2 : (a = b) = False := eq_false hab
  have n3 : (b = a) = False := eq_false (fun h => hab h.symm)
  refine dsat_recover (by kernel_rfl) Tryz.func257 Tryz.results257 rfl ⟨rfl, rfl, rfl⟩ ⟨rfl, rfl, rfl⟩ (by simp [Tryz.ntmps257]) (by simp [Tryz.ntmps257]) (by simp [Tryz.ntmps257]) (by kernel_rfl) ?_
  unfold thr
  simp only [Option.getD_some]
  have m0 : (m == a) = false := by simp; omega
  have m1 : (m == b) = false := by simp; omega
  have m2 : (a == m) = false := by simp; omega
  have m3 : (b == m) = false := by simp; omega
  have m4 : (a == b) = false := by simpa using hab
  have m5 : (b == a) = false := by simpa using fun h : b = a => hab h.symm
  repeat' (first | (show q0i ..; first | refine q0c ?_ | refine q0e rfl ?_) | (show q0k ..; refine q0f rfl rfl ?_) | (show goOn ..; first | refine q0g ?_ | refine q1d ?_ | refine q1x ?_) | (show q3f ..; refine q1h ?_) | (show dr ..; first | refine q1y ?_ | refine dr_n rfl ?_) | (show drGo ..; refine q3b rfl ?_) | (show drOn ..; first | refine q1z ?_ | refine q7m ?_) | (show q5w ..; refine q4t ?_) | (show q0d ..; first | refine q0h ?_ | refine q0b ?_ | refine q1k (by kernel_rfl) ?_ | refine q0q ?_ | refine q0j ?_) | (show q0o ..; first | refine cd_t ?_ | refine cd_f ?_) | refine q0a ?_)
  refine And.intro (by simp [q1l, okPair, q6y, Eff.wr, Rg.meets, rdOf, go_sem, m0, m1, m2, m3, m4, m5]) ⟨.inl rfl, ?_, ?_, by omega, fun j hj h1 h2 => ?_⟩
  · rw [q1a _ _ hab, q1m]
  · rw [q1m]
  · rw [q1a _ _ h2, q1a _ _ h1, q1a _ _ (by omega), q1a _ _ (by omega)]
theorem DSat.mono {P : Program} {g : FuncId} {args : List PV} {H : Heap} {m : Nat} {p : Option PV} {Q Q' : Heap → Nat → Prop} (h : DSat P g args H m p Q) (hq : ∀ H' m', Q H' m' → Q' H' m') : DSat P g args H m p Q' := fun w M0 σ vs pv hr hf hv hp =>
  (h w M0 σ vs pv hr hf hv hp).mono fun e u' w' ⟨h1, h2, H', m', σ', h3, h4⟩ => ⟨h1, h2, H', m', σ', hq _ _ h3, h4⟩
theorem found_csat {H : Heap} {m : Nat} (t : Ob) (w : Wd) (g : FuncId) (cap : List PV) (R : Ob × Int) (hent : q3w Tryz.prog g = true) (hcl : ClC g cap t w H m R) (hR : (R.2 == 0) = false → R.1 = Ob.zero) :
    CSat Tryz.prog 221 [.agg (Wd.enc w), .agg (Ob.enc t), .fn (.func g) [] cap] H m (fun out H' m' => out = .ret (.tup [.agg (Ob.enc R.1), .int .i64 R.2]) ∧ m ≤ m' ∧ ∀ j, j < m → H' j = H j) := by
  refine csat_deferred (d8 := 8) (g := 257) (by kernel_rfl) Tryz.func221 rfl (by kernel_rfl) (fun z hz => by cases hz; simp [Tryz.ntmps221]) ⟨rfl, rfl, rfl⟩ (by simp [Tryz.ntmps221]) (by kernel_rfl) (by kernel_rfl) ?_
  repeat' (first | (show q0i ..; first | refine q0c ?_ | refine q0e rfl ?_) | (show q0k ..; refine q0f rfl rfl ?_) | (show goOn ..; refine q1d ?_) | (show q0d ..; refine q0b ?_))
  refine ⟨rfl, ?_⟩
  repeat' (first | (show q0i ..; first | refine q0c ?_ | refine q0e rfl ?_) | (show q0k ..; refine q0f rfl rfl ?_) | (show goOn ..; refine q0g ?_))
  refine ⟨rfl, [.ptr (m + 1 + 1) 0, .ptr (m + 1 + 1 + 1) 0], (by (try simp only [go_sem]); try rfl), ?_⟩
  repeat' (first | (show q0i ..; refine q0e rfl ?_) | (show q0k ..; first | refine q0f rfl rfl ?_ | refine q0m rfl ?_) | (show goOn ..; first | refine q0g ?_ | refine q1d ?_) | (show q0d ..; first | refine q0h ?_ | refine q0b ?_))
  have A0 : ∀ j, j < m → hset (hset (hset (hset (hset H m (some (.box (Wd.enc w)))) (m + 1) (some (.box (Ob.enc t)))) (m + 1 + 1) (some (.box (Ob.enc Ob.zero)))) (m + 1 + 1 + 1) (some (.box [.int .i64 0]))) (m + 1 + 1 + 1 + 1) (some (.box (q6u t w))) j = H j := fun j hj => by repeat rw [q1a _ _ (by omega)]
  cases he : (R.2 == 0) with
  | false =>
    have hoe : outE R = .pan (thr R.2) := by unfold outE; rw [if_neg (by rw [he]; simp)]
    unfold ClC at hcl
    rw [hoe] at hcl
    refine q0w hent (hcl _ (m + 1 + 1 + 1 + 1 + 1) (m + 1 + 1 + 1 + 1) (by omega) (by omega) A0 (q1m _ _ _)) ?_ ?_
    · rintro r H' m' ⟨h, _⟩; cases h
    rintro p H1 m1 ⟨h, L1, A1⟩
    cases h
    refine q4k ?_
    have c2 : H1 (m + 1 + 1) = some (.box (Ob.enc Ob.zero)) := by rw [A1 _ (by omega)]; simp only [go_sem]
    have c3 : H1 (m + 1 + 1 + 1) = some (.box [.int .i64 0]) := by rw [A1 _ (by omega)]; simp only [go_sem]
    have low : ∀ j, j < m → H1 j = H j := fun j hj => by rw [A1 j (by omega)]; exact A0 j hj
    unfold KY
    refine (rec_some R.2 0 Ob.zero c2 c3 (by omega) (by omega) (by omega)).mono ?_
    rintro H2 m2 ⟨d2, d3, L2, A2⟩
    have hz := hR he
    obtain ⟨o, e⟩ := R
    simp only at hz d3
    subst hz
    refine ⟨.tup [.agg (Ob.enc Ob.zero), .int .i64 e], ?_, rfl, by omega, fun j hj => by rw [A2 j (by omega) (by omega) (by omega)]; exact low j hj⟩
    simp only [q8c, q8k, Tryz.results221, go_sem, d2, d3]
    try rfl
  | true =>
    have hoe : outE R = .ret (.agg (Ob.enc R.1)) := by unfold outE; rw [if_pos he]
    unfold ClC at hcl
    rw [hoe] at hcl
    refine q0w hent (hcl _ (m + 1 + 1 + 1 + 1 + 1) (m + 1 + 1 + 1 + 1) (by omega) (by omega) A0 (q1m _ _ _)) ?_ ?_
    case refine_2 => rintro r H' m' ⟨h, _⟩; cases h
    rintro r H1 m1 ⟨h, L1, A1⟩
    cases h
    have c2 : H1 (m + 1 + 1) = some (.box (Ob.enc Ob.zero)) := by rw [A1 _ (by omega)]; simp only [go_sem]
    have c3 : H1 (m + 1 + 1 + 1) = some (.box [.int .i64 0]) := by rw [A1 _ (by omega)]; simp only [go_sem]
    have low : ∀ j, j < m → H1 j = H j := fun j hj => by rw [A1 j (by omega)]; exact A0 j hj
    have he' : R.2 = 0 := by simpa using he
    repeat' (first | (show q0i ..; first | refine q0c ?_ | refine q0e rfl ?_) | (show q0k ..; refine q0f rfl rfl ?_) | (show goOn ..; refine q1x ?_) | (show q3f ..; refine q1h ?_) | (show q0d ..; refine q0r ?_) | refine q0a ?_)
    unfold KY
    refine (rec_nil _ _).mono ?_
    rintro H2 m2 ⟨rfl, rfl⟩
    refine ⟨.tup [.agg (Ob.enc R.1), .int .i64 R.2], ?_, rfl, by omega, fun j hj => by (repeat rw [q1a _ _ (by omega)]); exact low j hj⟩
    rw [he']
    simp only [q8c, q8k, Tryz.results221, go_sem]
    try rfl
theorem see_zero {w : Wd} {t : Ob} {r : Rf} {k : Int} : ((seeR w t r k).2 == 0) = false → (seeR w t r k).1 = Ob.zero := by
  unfold seeR
  split
  · split
    · split
      · intro h; simp at h
      · intro _; rfl
    · intro _; rfl
  · intro _; rfl
theorem reach_see (w : Wd) (t : Ob) (r : Rf) (kind : Int) (hf : FewW w) (hw : q6s w = true) (ht : q3k t.label = true) (htl : t.label.length ≤ 20) : Pure Tryz.prog 173 [.agg (Wd.enc w), .agg (Ob.enc t), .agg (Rf.enc r), .int .i64 kind] (.tup [.agg (Ob.enc (seeR w t r kind).1), .int .i64 (seeR w t r kind).2]) := by
  have hR : ((seeR w t r kind).2 == 0) = false → (seeR w t r kind).1 = Ob.zero := see_zero 
  have hcl : ∀ (H : Heap) (m : Nat), H 2 = some (.box (Rf.enc r)) → 2 < m → H 3 = some (.box [.int .i64 kind]) → 3 < m → ClC 222 [.ptr 2 0, .ptr 3 0] t w H m (seeR w t r kind) := fun H m h1 h2 h3 h4 => see1 t w r kind h1 h2 h3 h4 ht htl hf hw
  generalize seeR w t r kind = D at hR hcl ⊢
  obtain ⟨o, e⟩ := D
  simp only at hR hcl ⊢
  refine q2d (by kernel_rfl) (by simp only [go_sem, *]) (by simp only [go_sem, *]) Tryz.func173 Tryz.results173 rfl (by simp [Tryz.ntmps173]) (by kernel_rfl) ?_
  repeat' (first | (show q0i ..; first | refine q0c ?_ | refine q0e rfl ?_) | (show q0k ..; first | refine q0f rfl rfl ?_ | refine q0m rfl ?_) | (show goOn ..; first | refine q0g ?_ | refine q1d ?_) | (show q0d ..; first | refine q0h ?_ | refine q0b ?_) | refine q0a ?_)
  (refine q0w (by kernel_rfl) (found_csat t w _ _ (o, e) (by kernel_rfl) (hcl _ _ (by simp only [go_sem]) (by omega) (by simp only [go_sem]) (by omega)) hR) ?_ ?_)
  case refine_2 => rintro p H' m' ⟨h, _⟩; cases h
  rintro r H1 m1 ⟨h, L1, A1⟩
  cases h
  have c1 : H1 4 = some (.box (Ob.enc Ob.zero)) := by rw [A1 4 (by omega)]; simp only [go_sem]
  repeat' (first | (show q0i ..; first | refine q0c ?_ | refine q0e rfl ?_) | (show q0k ..; refine q0f rfl rfl ?_) | (show goOn ..; first | refine q0g ?_ | refine q1x ?_) | (show q3f ..; refine q1h ?_) | (show q0d ..; refine q0r ?_) | refine q0a ?_ | (show retQ ..; refine q0s ?_) | refine q0l ?_)
  all_goals rfl
end Go.Proofs.YtoibbedpaaeclaaGreat
end

section
namespace Go.Proofs.YtoibbedpaaeclaaGreat
open Go Go.RowKit
set_option linter.unusedVariables false
set_option linter.unusedSimpArgs false
def args (a : Nat → Int) : List PV := arr 7 (fun i => [.int .u64 (a i)])
@[go_sem] theorem args_cells (a : Nat → Int) : PV.cells? (.agg (args a)) = some (args a) := rfl
theorem args_bdl (S : Nat → Prop) (a : Nat → Int) : ∀ p ∈ args a, Bd S p := by
  unfold args arr
  simp only [List.mem_flatMap, forall_exists_index, and_imp]
  intro p i _ hp
  simp only [List.mem_cons, List.not_mem_nil, or_false] at hp; subst hp; exact Bd.int _ _
@[go_sem] theorem args_bdL (S : Nat → Prop) (a : Nat → Int) : BdL S (args a) = True := eq_true (args_bdl S a)
@[go_sem] theorem cut_args (a : Nat → Int) : cut Tryz.prog 48 (args a) 0 = some (.agg (args a)) := by kernel_rfl
@[go_sem] theorem cut_args_at0 (a : Nat → Int) : cut Tryz.prog 22 (args a) 0 = some (.int .u64 (a 0)) := by kernel_rfl
@[go_sem] theorem cut_args_at1 (a : Nat → Int) : cut Tryz.prog 22 (args a) 1 = some (.int .u64 (a 1)) := by kernel_rfl
@[go_sem] theorem cut_args_at2 (a : Nat → Int) : cut Tryz.prog 22 (args a) 2 = some (.int .u64 (a 2)) := by kernel_rfl
@[go_sem] theorem cut_args_at3 (a : Nat → Int) : cut Tryz.prog 22 (args a) 3 = some (.int .u64 (a 3)) := by kernel_rfl
@[go_sem] theorem cut_args_at4 (a : Nat → Int) : cut Tryz.prog 22 (args a) 4 = some (.int .u64 (a 4)) := by kernel_rfl
structure Clr where
  ob : Ob
  w : Wd
  a : Nat → Int
  deriving Inhabited
def Clr.enc (x : Clr) : List PV := Ob.enc x.ob ++ Wd.enc x.w ++ args x.a
@[go_sem] theorem Clr.len (x : Clr) : (Clr.enc x).length = 62 := by kernel_rfl
@[go_sem] theorem Clr.cells (x : Clr) : PV.cells? (.agg (Clr.enc x)) = some (Clr.enc x) := rfl
@[go_sem] theorem field_Clr_1_0 : q1s Tryz.prog 111 0 = some (71, 0) := by kernel_rfl
@[go_sem] theorem field_Clr_1_1 : q1s Tryz.prog 111 1 = some (33, 51) := by kernel_rfl
@[go_sem] theorem field_Clr_1_2 : q1s Tryz.prog 111 2 = some (48, 55) := by kernel_rfl
@[go_sem] theorem cut_Clr_ob_id_0 (x : Clr) : cut Tryz.prog 22 (Clr.enc x) 0 = some (.int .u64 x.ob.id) := by kernel_rfl
@[go_sem] theorem cut_Clr_ob_label_0 (x : Clr) : cut Tryz.prog 26 (Clr.enc x) 2 = some (.sl (List.map Pr.enc x.ob.label)) := by kernel_rfl
@[go_sem] theorem spl_Clr_ob_label (x : Clr) (v : List Pr) : splice (Clr.enc x) 2 ([.sl (List.map Pr.enc v)]) = Clr.enc { x with ob := { x.ob with label := v } } := by kernel_rfl
@[go_sem] theorem spl_Clr_ob_thread_pc (x : Clr) (v : Int) : splice (Clr.enc x) 24 ([.int .u64 v]) = Clr.enc { x with ob := { x.ob with thread := { x.ob.thread with pc := v } } } := by kernel_rfl
@[go_sem] theorem cut_Clr_ob_thread_clear_0 (x : Clr) : cut Tryz.prog 26 (Clr.enc x) 25 = some (.sl (List.map Pr.enc x.ob.thread.clear)) := by kernel_rfl
@[go_sem] theorem spl_Clr_ob_thread_clear (x : Clr) (v : List Pr) : splice (Clr.enc x) 25 ([.sl (List.map Pr.enc v)]) = Clr.enc { x with ob := { x.ob with thread := { x.ob.thread with clear := v } } } := by kernel_rfl
@[go_sem] theorem spl_Clr_ob_thread_space (x : Clr) (v : Rf) : splice (Clr.enc x) 26 (Rf.enc v) = Clr.enc { x with ob := { x.ob with thread := { x.ob.thread with space := v } } } := by kernel_rfl
@[go_sem] theorem cut_Clr_ob_thread_labs_at0 (x : Clr) : cut Tryz.prog 26 (Clr.enc x) 39 = some (.sl (List.map Pr.enc (x.ob.thread.labs 0))) := by kernel_rfl
@[go_sem] theorem cut_Clr_ob_thread_labs_at1 (x : Clr) : cut Tryz.prog 26 (Clr.enc x) 40 = some (.sl (List.map Pr.enc (x.ob.thread.labs 1))) := by kernel_rfl
@[go_sem] theorem cut_Clr_ob_thread_labs_at2 (x : Clr) : cut Tryz.prog 26 (Clr.enc x) 41 = some (.sl (List.map Pr.enc (x.ob.thread.labs 2))) := by kernel_rfl
@[go_sem] theorem cut_Clr_ob_thread_labs_at3 (x : Clr) : cut Tryz.prog 26 (Clr.enc x) 42 = some (.sl (List.map Pr.enc (x.ob.thread.labs 3))) := by kernel_rfl
@[go_sem] theorem cut_Clr_w_0 (x : Clr) : cut Tryz.prog 33 (Clr.enc x) 51 = some (.agg (Wd.enc x.w)) := by kernel_rfl
@[go_sem] theorem spl_Clr_w (x : Clr) (v : Wd) : splice (Clr.enc x) 51 (Wd.enc v) = Clr.enc { x with w := v } := by kernel_rfl
@[go_sem] theorem cut_Clr_a_at0 (x : Clr) : cut Tryz.prog 22 (Clr.enc x) 55 = some (.int .u64 (x.a 0)) := by kernel_rfl
@[go_sem] theorem cut_Clr_a_at1 (x : Clr) : cut Tryz.prog 22 (Clr.enc x) 56 = some (.int .u64 (x.a 1)) := by kernel_rfl
@[go_sem] theorem cut_Clr_a_at2 (x : Clr) : cut Tryz.prog 22 (Clr.enc x) 57 = some (.int .u64 (x.a 2)) := by kernel_rfl
@[go_sem] theorem cut_Clr_a_at3 (x : Clr) : cut Tryz.prog 22 (Clr.enc x) 58 = some (.int .u64 (x.a 3)) := by kernel_rfl
@[go_sem] theorem cut_Clr_a_at4 (x : Clr) : cut Tryz.prog 22 (Clr.enc x) 59 = some (.int .u64 (x.a 4)) := by kernel_rfl
attribute [go_sem] Tryz.underlying48
@[go_sem] theorem cut_Clr_ob0 (x : Clr) : cut Tryz.prog 71 (Clr.enc x) 0 = some (.agg (Ob.enc x.ob)) := by kernel_rfl
end Go.Proofs.YtoibbedpaaeclaaGreat
end

section
namespace Go.Proofs.YtoibbedpaaeclaaGreat
open Go Go.RowKit
set_option linter.unusedVariables false
set_option linter.unusedSimpArgs false
set_option maxHeartbeats 16000000
set_option maxRecDepth 100000
theorem q7z {w : Wd} (h : fitW w = true) : q6s w = true := by
  unfold fitW at h
  simp only [Bool.and_eq_true] at h
  exact h.1.1
@[go_sem] theorem ex17_b4 (a b : Int) : q4c Tryz.prog 60 [(0, .int .u64 a), (1, .int .u64 b)] = some (.agg (Rf.enc ⟨a, b⟩)) := by kernel_rfl
attribute [local irreducible] q0i dr q0d Ex.then Ex.inBlock retQ q1l q2j q2g Pure CSat evOp q1i rdOf upd hset strip sp0 cut envL q1g q3q Keep BdL evBs q2s q3c
theorem find_id {w : Wd} {id : Int} (h : (q2p w id).2 = true) : (q2p w id).1.id = id ∧ (q2p w id).1 ∈ w.objects := by
  unfold q2p at h ⊢
  split
  · rename_i x hx
    exact ⟨by have := List.find?_some hx; simpa using this, List.mem_of_find?_eq_some hx⟩
  · rename_i hx; rw [hx] at h; cases h
theorem links_found {w : Wd} (hw : fitW w = true) {d : Ob} (hd : d ∈ w.objects) {id : Int} (hi : id ∈ d.links) : (q2p w id).2 = true := by
  unfold fitW at hw
  simp only [Bool.and_eq_true] at hw
  obtain ⟨k, hk⟩ := List.getElem?_of_mem hd
  have h1 := allB_iff.1 hw.2.1 k (q3y hk)
  unfold q8g at h1
  rw [hk] at h1
  simp only [Bool.and_eq_true] at h1
  have h2 := h1.1
  unfold q9p at h2
  simp only [Bool.and_eq_true] at h2
  obtain ⟨n, hn⟩ := List.getElem?_of_mem hi
  have h3 := allB_iff.1 h2.1 n (q3y hn)
  unfold q7q at h3
  rw [hn] at h3
  simp only [Bool.and_eq_true] at h3
  exact h3.1
theorem dir_found {w : Wd} {t : Ob} {id : Int} {b : Bool} (h : ((dirR w t id b).2 == 0) = true) : (dirR w t id b).1 = (q2p w id).1 ∧ (q2p w id).2 = true ∧ x0j t (q2p w id).1 = true := by
  unfold dirR at h ⊢
  split at h
  · rename_i h1
    rw [if_pos h1]
    simp only [Bool.and_eq_true] at h1
    split at h
    · rename_i h2; rw [if_pos h2]; exact ⟨rfl, h1.1, h1.2.2⟩
    · simp at h
  · simp at h
end Go.Proofs.YtoibbedpaaeclaaGreat
end

section
namespace Go.Proofs.YtoibbedpaaeclaaGreat.kgate
open Go Go.RowKit Go.Proofs.YtoibbedpaaeclaaGreat
set_option linter.unusedVariables false
set_option linter.unusedSimpArgs false
set_option maxHeartbeats 16000000
set_option maxRecDepth 100000
attribute [go_sem] q1m
@[go_sem] theorem ifc_thr : ifcT Tryz.prog 113 = some false := by kernel_rfl
@[go_sem] theorem thr_zeros : zeros Tryz.prog 113 = some [.int .i64 0] := by kernel_rfl
@[go_sem] theorem thr_f0 : q1s Tryz.prog 113 0 = some (50, 0) := by kernel_rfl
@[go_sem] theorem thr_build (e : Int) : q4c Tryz.prog 113 [(0, .int .i64 e)] = some (.agg [.int .i64 e]) := by kernel_rfl
@[go_sem] theorem cl_build (t : Ob) (w : Wd) (a : Nat → Int) : q4c Tryz.prog 111 [(0, .agg (Ob.enc t)), (1, .agg (Wd.enc w)), (2, .agg (args a))] = some (.agg (Clr.enc ⟨t, w, a⟩)) := by kernel_rfl
theorem noidL {l : List PV} (h : BdL (fun _ => False) l) : ∀ p ∈ l, NoId p := h
def thr (e : Int) : PV := .ifc 113 (.agg [.int .i64 e])
attribute [local irreducible] q0i dr q0d Ex.then Ex.inBlock retQ q1l q2j q2g Pure CSat evOp q1i rdOf upd hset strip sp0 cut envL q1g q3q Keep BdL evBs q2s q3c
theorem must_yes (H : Heap) (m : Nat) (e : Int) : CSat Tryz.prog 175 [.bool true, .int .i64 e] H m (fun out H' m' => (∃ r, out = .ret r) ∧ H' = H ∧ m' = m) := by
  refine q4u (by kernel_rfl) Tryz.func175 Tryz.results175 rfl (by simp [Tryz.ntmps175]) (by kernel_rfl) ?_
  repeat' (first | (show q0i ..; first | refine q0c ?_ | refine q0e rfl ?_) | (show q0k ..; refine q0f rfl rfl ?_) | (show goOn ..; refine q0g ?_) | (show q0d ..; first | refine q0h ?_ | refine q0b ?_ | refine q0q ?_ | refine q0j ?_) | (show q0o ..; refine cd_f ?_) | refine q0a ?_ | (show retQ ..; refine x0k ?_) | refine q0l ?_)
  exact ⟨⟨_, rfl⟩, rfl, rfl⟩
theorem must_no (H : Heap) (m : Nat) (e : Int) : CSat Tryz.prog 175 [.bool false, .int .i64 e] H m (fun out H' m' => out = .pan (thr e) ∧ H' = H ∧ m' = m) := by
  refine q4u (by kernel_rfl) Tryz.func175 Tryz.results175 rfl (by simp [Tryz.ntmps175]) (by kernel_rfl) ?_
  repeat' (first | (show q0i ..; first | refine q0c ?_ | refine q0e rfl ?_) | (show q0k ..; refine q0f rfl rfl ?_) | (show goOn ..; refine q0g ?_) | (show q0d ..; first | refine q0h ?_ | refine q0b ?_ | refine q0j ?_) | (show q0o ..; refine cd_t ?_) | refine q0a ?_)
  refine run_panic rfl rfl (by (try simp only [go_sem]); exact nm) (pan_some ?_)
  repeat' (first | refine q4k ?_ | refine q4y ?_ | refine q4w ?_)
  exact ⟨rfl, rfl, rfl⟩
theorem none_yes (H : Heap) (m : Nat) : CSat Tryz.prog 174 [.int .i64 0] H m (fun out H' m' => (∃ r, out = .ret r) ∧ H' = H ∧ m' = m) := by
  refine q4u (by kernel_rfl) Tryz.func174 Tryz.results174 rfl (by simp [Tryz.ntmps174]) (by kernel_rfl) ?_
  repeat' (first | (show q0i ..; refine q0e rfl ?_) | (show q0k ..; first | refine q0f rfl rfl ?_ | refine q0m rfl ?_) | (show goOn ..; refine q0g ?_) | (show q0d ..; refine q0b ?_))
  (refine q0w (by kernel_rfl) (must_yes _ _ _) ?_ ?_)
  case refine_2 => rintro p H' m' ⟨⟨_, h⟩, _⟩; cases h
  rintro r H' m' ⟨⟨_, h⟩, rfl, rfl⟩
  clear h
  repeat' (first | (show q0i ..; refine q0c ?_) | (show retQ ..; refine x0k ?_) | refine q0l ?_)
  exact ⟨⟨_, rfl⟩, rfl, rfl⟩
theorem none_no (H : Heap) (m : Nat) (e : Int) (he : (e == 0) = false) : CSat Tryz.prog 174 [.int .i64 e] H m (fun out H' m' => out = .pan (thr e) ∧ H' = H ∧ m' = m) := by
  refine q4u (by kernel_rfl) Tryz.func174 Tryz.results174 rfl (by simp [Tryz.ntmps174]) (by kernel_rfl) ?_
  repeat' (first | (show q0i ..; refine q0e rfl ?_) | (show q0k ..; first | refine q0f rfl rfl ?_ | refine q0m rfl ?_) | (show goOn ..; refine q0g ?_) | (show q0d ..; refine q0b ?_))
  (refine q0w (by kernel_rfl) (must_no _ _ _) ?_ ?_)
  case refine_1 => rintro r H' m' ⟨h, _⟩; cases h
  rintro p H' m' ⟨h, rfl, rfl⟩
  cases h
  repeat' (first | refine q4k ?_ | refine q4y ?_ | refine q4w ?_)
  exact ⟨rfl, rfl, rfl⟩
theorem rec_nil (H : Heap) (m : Nat) : DSat Tryz.prog 61 [.ptr 0 0, .ptr 2 0, .ptr 3 0, .ptr 4 0, .ptr 5 0] H m none (fun H' m' => H' = H ∧ m' = m) := by
  refine dsat_nil (by kernel_rfl) Tryz.func61 Tryz.results61 rfl ⟨rfl, rfl, rfl⟩ ⟨rfl, rfl, rfl⟩ ⟨rfl, rfl, rfl⟩ ⟨⟨_, rfl⟩, rfl, rfl⟩ ifc_any (by simp [Tryz.ntmps61]) (by simp [Tryz.ntmps61]) (by simp [Tryz.ntmps61]) (by simp [Tryz.ntmps61]) (by simp [Tryz.ntmps61]) (by kernel_rfl) ?_
  intro env
  repeat' (first | (show q0d ..; refine q0q ?_))
  exact ⟨.inl rfl, rfl, rfl⟩
theorem rec_some {H : Heap} {m : Nat} (w x0 : Wd) (e v0 e0 : Int) (k0 : Bool) (h0 : H 0 = some (.box (Wd.enc w))) (h2 : H 2 = some (.box (Wd.enc x0))) (h3 : H 3 = some (.box [.int .u64 v0])) (h4 : H 4 = some (.box [.int .i64 e0])) (h5 : H 5 = some (.box [.bool k0])) (hm : 6 ≤ m) :
    DSat Tryz.prog 61 [.ptr 0 0, .ptr 2 0, .ptr 3 0, .ptr 4 0, .ptr 5 0] H m (some (thr e)) (fun H' m' => H' 2 = some (.box (Wd.enc w)) ∧ H' 3 = some (.box [.int .u64 0]) ∧ H' 4 = some (.box [.int .i64 e]) ∧ H' 5 = some (.box [.bool true])) := by
  have n0 : (0 = m) = False := eq_false (by omega)
  have n2 : (2 = m) = False := eq_false (by omega)
  have n3 : (3 = m) = False := eq_false (by omega)
  have n4 : (4 = m) = False := eq_false (by omega)
  have n5 : (5 = m) = False := eq_false (by omega)
  refine dsat_recover (by kernel_rfl) Tryz.func61 Tryz.results61 rfl ⟨rfl, rfl, rfl⟩ ⟨rfl, rfl, rfl⟩ (by simp [Tryz.ntmps61]) (by simp [Tryz.ntmps61]) (by simp [Tryz.ntmps61]) (by kernel_rfl) ?_
  unfold thr
  simp only [Option.getD_some]
  have m0 : (m == 0) = false := by simp; omega
  have m2 : (m == 2) = false := by simp; omega
  have m3 : (m == 3) = false := by simp; omega
  have m4 : (m == 4) = false := by simp; omega
  have m5 : (m == 5) = false := by simp; omega
  have o0 : (0 == m) = false := by simp; omega
  have o2 : (2 == m) = false := by simp; omega
  have o3 : (3 == m) = false := by simp; omega
  have o4 : (4 == m) = false := by simp; omega
  have o5 : (5 == m) = false := by simp; omega
  repeat' (first | (show q0i ..; first | refine q0c ?_ | refine q0e rfl ?_) | (show q0k ..; refine q0f rfl rfl ?_) | (show goOn ..; first | refine q0g ?_ | refine q1d ?_ | refine q1x ?_) | (show q3f ..; refine q1h ?_) | (show dr ..; first | refine q1y ?_ | refine dr_n rfl ?_) | (show drGo ..; refine q3b rfl ?_) | (show drOn ..; first | refine q1z ?_ | refine q7m ?_) | (show q5w ..; refine q4t ?_) | (show q0d ..; first | refine q0h ?_ | refine q0b ?_ | refine q1k (by kernel_rfl) ?_ | refine q0q ?_ | refine q0j ?_) | (show q0o ..; first | refine cd_t ?_ | refine cd_f ?_) | refine q0a ?_)
  refine And.intro (by simp [q1l, okPair, q6y, Eff.wr, Rg.meets, rdOf, go_sem, m0, m2, m3, m4, m5, o0, o2, o3, o4, o5]) ⟨.inl rfl, ?_, ?_, ?_, ?_⟩
  all_goals (repeat (first | rw [q1m] | rw [q1a _ _ (by omega)]))
/-- What a call does with the caller's box: R is the world, the value, the error, and whether it is such a call. -/
def DoC (t : Ob) (w : Wd) (n : Int) (a : Nat → Int) (R : Wd × Int × Int × Bool) : Prop :=
  ∀ (H : Heap), H 7 = some (.box (Clr.enc ⟨t, w, a⟩)) → CSat Tryz.prog 62 [.ptr 7 0, .int .i64 n] H 8 (fun out H' m' => ((R.2.2.1 == 0) = true → out = .ret (.tup [.int .u64 R.2.1, .bool R.2.2.2]) ∧ ∃ t', H' 7 = some (.box (Clr.enc ⟨t', R.1, a⟩))) ∧ ((R.2.2.1 == 0) = false → out = .pan (thr R.2.2.1)) ∧ 8 ≤ m' ∧ ∀ j, j < 7 → H' j = H j)
theorem do_pure (w : Wd) (id n : Int) (a : Nat → Int) (t : Ob) (b : Bool) (R : Wd × Int × Int × Bool) (hfind : Pure Tryz.prog 60 [.agg (Wd.enc w), .int .u64 id] (.tup [.agg (Ob.enc t), .bool b])) (hdo : DoC t w n a R) (hR : (R.2.2.1 == 0) = false → R.1 = w ∧ R.2.1 = 0 ∧ R.2.2.2 = true) :
    Pure Tryz.prog 26 [.agg (Wd.enc w), .int .u64 id, .int .i64 n, .agg (args a)] (.tup [.agg (Wd.enc R.1), .int .u64 R.2.1, .int .i64 R.2.2.1, .bool R.2.2.2]) := by
  obtain ⟨x, v, e, k⟩ := R
  simp only at hR ⊢
  unfold DoC at hdo
  simp only at hdo
  refine pure_of_csat (noidL (by simp only [go_sem])) (by have h : Bd (fun _ => False) (.tup [.agg (Wd.enc x), .int .u64 v, .int .i64 e, .bool k]) := (by simp only [go_sem]); exact h) ?_
  refine q9q (d8 := 26) (g := 61) (by kernel_rfl) Tryz.func26 rfl (.more (.more .one)) (by kernel_rfl) (fun z hz => by cases hz; simp [Tryz.ntmps26]) ⟨rfl, rfl, rfl⟩ (by simp [Tryz.ntmps26]) (by kernel_rfl) (by kernel_rfl) ?_
  repeat' (first | (show q0i ..; first | refine q0c ?_ | refine q0e rfl ?_) | (show q0k ..; first | refine q0f rfl rfl ?_ | refine q0m rfl ?_) | (show goOn ..; first | refine q0g ?_ | refine q1d ?_ | refine q1x ?_) | (show q3f ..; refine q1h ?_) | (show q1j ..; (refine q0u (r := ?_) ?_ ?_; rotate_left 1; (focus exact hfind))) | (show q0d ..; first | refine q0h ?_ | refine q0b ?_) | refine q0a ?_)
  refine ⟨rfl, ?_⟩
  repeat' (first | (show q0i ..; first | refine q0c ?_ | refine q0e rfl ?_) | (show q0k ..; refine q0f rfl rfl ?_) | (show goOn ..; refine q0g ?_))
  refine ⟨rfl, [.ptr 0 0, .ptr 2 0, .ptr 3 0, .ptr 4 0, .ptr 5 0], (by (try simp only [go_sem]); try rfl), ?_⟩
  repeat' (first | (show q0i ..; refine q0e rfl ?_) | (show q0k ..; first | refine q0f rfl rfl ?_ | refine q0m rfl ?_) | (show goOn ..; refine q0g ?_) | (show q0d ..; first | refine q0h ?_ | refine q0b ?_))
  cases he : (e == 0) with
  | true =>
    obtain rfl : e = 0 := by simpa using he
    (refine q0w (by kernel_rfl) (hdo _ (by simp only [go_sem])) ?_ ?_)
    case refine_2 => rintro p H' m' ⟨h1, _⟩; have := (h1 rfl).1; cases this
    rintro r H1 m1 ⟨h1, _, L1, A1⟩
    obtain ⟨ho, t', c7⟩ := h1 rfl
    cases ho
    have c2 : H1 2 = some (.box (Wd.enc Wd.zero)) := by rw [A1 2 (by omega)]; simp only [go_sem] <;> rfl
    have c3 : H1 3 = some (.box [.int .u64 0]) := by rw [A1 3 (by omega)]; simp only [go_sem] <;> rfl
    have c4 : H1 4 = some (.box [.int .i64 0]) := by rw [A1 4 (by omega)]; simp only [go_sem] <;> rfl
    have c5 : H1 5 = some (.box [.bool false]) := by rw [A1 5 (by omega)]; simp only [go_sem] <;> rfl
    clear A1 h1 hdo
    repeat' (first | (show q0i ..; first | refine q0c ?_ | refine q0e rfl ?_) | (show q0k ..; refine q0f rfl rfl ?_) | (show goOn ..; first | refine q0g ?_ | refine q1x ?_) | (show q3f ..; refine q1h ?_) | (show dr ..; first | refine q1y ?_ | refine dr_n rfl ?_) | (show drGo ..; refine q3b rfl ?_) | (show drOn ..; first | refine q1z ?_ | refine q7m ?_) | (show q5w ..; refine q4t ?_) | (refine And.intro (by kernel_rfl : q2j _ _ _ = true) ?_) | (show q0d ..; first | refine q0h ?_ | refine pc_drawR (by kernel_rfl) ?_ | refine q0r ?_) | refine q0a ?_)
    unfold KY
    refine (rec_nil _ _).mono ?_
    rintro H2 m2 ⟨rfl, rfl⟩
    refine ⟨.tup [.agg (Wd.enc x), .int .u64 v, .int .i64 0, .bool k], ?_, rfl⟩
    simp only [q8c, q8k, Tryz.results26, go_sem]
    try rfl
  | false =>
    obtain ⟨rfl, rfl, rfl⟩ := hR he
    (refine q0w (by kernel_rfl) (hdo _ (by simp only [go_sem])) ?_ ?_)
    case refine_1 => rintro r H' m' ⟨_, h2, _⟩; have := h2 he; cases this
    rintro p H1 m1 ⟨_, h2, L1, A1⟩
    have ho := h2 he
    cases ho
    have c0 : H1 0 = some (.box (Wd.enc x)) := by rw [A1 0 (by omega)]; simp only [go_sem] <;> rfl
    have c2 : H1 2 = some (.box (Wd.enc Wd.zero)) := by rw [A1 2 (by omega)]; simp only [go_sem] <;> rfl
    have c3 : H1 3 = some (.box [.int .u64 0]) := by rw [A1 3 (by omega)]; simp only [go_sem] <;> rfl
    have c4 : H1 4 = some (.box [.int .i64 0]) := by rw [A1 4 (by omega)]; simp only [go_sem] <;> rfl
    have c5 : H1 5 = some (.box [.bool false]) := by rw [A1 5 (by omega)]; simp only [go_sem] <;> rfl
    clear A1 hdo
    refine q4k ?_
    unfold KY
    refine (rec_some x Wd.zero e 0 0 false c0 c2 c3 c4 c5 (by omega)).mono ?_
    rintro H2 m2 ⟨d2, d3, d4, d5⟩
    refine ⟨.tup [.agg (Wd.enc x), .int .u64 0, .int .i64 e, .bool true], ?_, rfl⟩
    simp only [q8c, q8k, Tryz.results26, go_sem, d2, d3, d4, d5]
    try rfl
end Go.Proofs.YtoibbedpaaeclaaGreat.kgate
end
