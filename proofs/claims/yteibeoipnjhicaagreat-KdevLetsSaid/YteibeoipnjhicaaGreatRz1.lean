import Derived.Test.YteibeoipnjhicaaGreatEa8
import Derived.Test.YteibeoipnjhicaaGreatRz0
import Derived.Test.YteibeoipnjhicaaGreatEa5
import Derived.Test.YteibeoipnjhicaaGreatEa7
section
namespace Go.Proofs.YteibeoipnjhicaaGreat
open Go Go.RowKit
set_option linter.unusedVariables false
set_option linter.unusedSimpArgs false
set_option maxHeartbeats 16000000
set_option maxRecDepth 100000
attribute [local irreducible] q1a dr q0i Ex.then Ex.inBlock retQ q1r q3f q3e Pure CSat evOp q2r rdOf upd hset strip sp0 cut envL q3h q4c Keep BdL evBs q3n q3z
end Go.Proofs.YteibeoipnjhicaaGreat
end

section
namespace Go.Proofs.YteibeoipnjhicaaGreat
open Go Go.RowKit
set_option linter.unusedVariables false
set_option linter.unusedSimpArgs false
set_option maxHeartbeats 16000000
set_option maxRecDepth 100000
attribute [local irreducible] q1a dr q0i Ex.then Ex.inBlock retQ q1r q3f q3e Pure CSat evOp q2r rdOf upd hset strip sp0 cut envL q3h q4c Keep BdL evBs q3n q3z
end Go.Proofs.YteibeoipnjhicaaGreat
end

section
namespace Go.Proofs.YteibeoipnjhicaaGreat
open Go Go.RowKit
set_option linter.unusedVariables false
set_option linter.unusedSimpArgs false
set_option maxHeartbeats 16000000
set_option maxRecDepth 100000
attribute [local irreducible] q1a dr q0i Ex.then Ex.inBlock retQ q1r q3f q3e Pure CSat evOp q2r rdOf upd hset strip sp0 cut envL q3h q4c Keep BdL evBs q3n q3z
end Go.Proofs.YteibeoipnjhicaaGreat
end

section
namespace Go.Proofs.YteibeoipnjhicaaGreat
open Go Go.RowKit
set_option linter.unusedVariables false
set_option linter.unusedSimpArgs false
set_option maxHeartbeats 16000000
set_option maxRecDepth 100000
@[go_sem] theorem ne_succ (n : Nat) : (n = n + 1) = False := by simp
attribute [local irreducible] q1a dr q0i Ex.then Ex.inBlock retQ q1r q3f q3e Pure CSat evOp q2r rdOf upd hset strip sp0 cut envL q3h q4c Keep BdL evBs q3n q3z
end Go.Proofs.YteibeoipnjhicaaGreat
end

section
namespace Go.Proofs.YteibeoipnjhicaaGreat
open Go Go.RowKit
set_option linter.unusedVariables false
set_option linter.unusedSimpArgs false
set_option maxHeartbeats 16000000
set_option maxRecDepth 100000
attribute [local irreducible] q1a dr q0i Ex.then Ex.inBlock retQ q1r q3f q3e Pure CSat evOp q2r rdOf upd hset strip sp0 cut envL q3h q4c Keep BdL evBs q3n q3z
def shownOf (o : Ob) : List Pr := if (o.kind == 4) = true then q8q o.label else o.label
theorem obj_shown (o : Ob) (hl : o.label.length ≤ 900000) : Pure Tryz.prog 261 [.agg (Ob.enc o)] (.sl ((shownOf o).map Pr.enc)) := by
  refine q2y (by kernel_rfl) (by simp only [go_sem, *]) (by simp only [go_sem, *]) Tryz.func261 Tryz.results261 rfl (by simp [Tryz.ntmps261]) (by kernel_rfl) ?_
  have h := label_raise o.label (by omega)
  repeat' (first | (show q1a ..; first | refine q0d ?_ | refine q0p rfl ?_) | (show q1f ..; first | refine q0n rfl rfl ?_ | refine q0h rfl ?_) | (show goOn ..; first | refine q0s ?_ | refine q0u ?_ | refine q0y ?_) | (show q1k ..; refine q0j ?_) | (show q1u ..; (refine q0z (r := ?_) ?_ ?_; rotate_left 1; (focus exact h))) | (show q0i ..; first | refine q0q ?_ | refine q0c ?_ | refine q0r ?_ | refine q0f ?_ | refine q0t ?_) | (show q1d ..; first | refine cd_t ?_ | refine cd_f ?_ | refine cd_n (fun _ => ?_) (fun _ => ?_) | refine cd_b (fun _ => ?_) (fun _ => ?_)) | refine q0a ?_ | refine q0m ?_ | refine q0l ?_ | (show retQ ..; first | refine q0o ?_ | refine q0b ?_) | refine q0e ?_)
  all_goals (unfold shownOf; simp only [*, if_true, if_false, Bool.false_eq_true]; try rfl)
end Go.Proofs.YteibeoipnjhicaaGreat
end

section
namespace Go.Proofs.YteibeoipnjhicaaGreat
open Go Go.RowKit
set_option linter.unusedVariables false
set_option linter.unusedSimpArgs false
set_option maxHeartbeats 16000000
set_option maxRecDepth 100000
attribute [local irreducible] q1a dr q0i Ex.then Ex.inBlock retQ q1r q3f q3e Pure CSat evOp q2r rdOf upd hset strip sp0 cut envL q3h q4c Keep BdL evBs q3n q3z
def obAt (l : List Ob) (k : Nat) : Bool := match l[k]? with
  | none => true
  | some x => sound x && (match k with
    | 0 => true
    | j + 1 => match l[j]? with
      | some y => !decide (y.id ≥ x.id)
      | none => true)
def Wd.L (w : Wd) : Prop := w.objects.length ≤ 9223372036854775807 ∧ ∀ x ∈ w.objects, x.L ∧ x.label.length ≤ 900000
def q5h (w : Wd) : Bool := (!decide (w.time < 0) && (!decide (w.time > 1099511627776) && !decide ((w.objects.length : Int) > 1024))) && allB w.objects.length (obAt w.objects)
theorem r13_fit (w : Wd) (hw : w.L) : Pure Tryz.prog 70 [.agg (Wd.enc w)] (.bool (q5h w)) := by
  refine q2y (by kernel_rfl) (by simp only [go_sem, *]) (by simp only [go_sem, *]) Tryz.func70 Tryz.results70 rfl (by simp [Tryz.ntmps70]) (by kernel_rfl) ?_
  obtain ⟨hl, ho⟩ := hw
  repeat' (first | (show q1a ..; first | refine q0d ?_ | refine q0p rfl ?_ | refine q1c rfl rfl ?_) | (show q1f ..; first | refine q0n rfl rfl ?_ | refine q0h rfl ?_) | (show goOn ..; first | refine q0s ?_ | refine q0u ?_ | refine q0y ?_) | (show q1k ..; refine q0j ?_) | (show wGo ..; first | refine q1v ?_ | refine q2b ?_ | refine q1x ?_ | refine q1z ?_ | refine gw_u ?_ | refine q1w (fun _ => ?_) (fun _ => ?_) | refine q2a (fun _ => ?_) (fun _ => ?_) | refine q1y (fun _ => ?_) (fun _ => ?_) | refine q2c (fun _ => ?_) (fun _ => ?_)) | (show dr ..; first | refine q1l ?_ | refine dr_n rfl ?_ | refine q2t rfl rfl ?_) | (show drGo ..; first | refine q2i rfl ?_ | refine q1j rfl ?_) | (show drOn ..; first | refine q1m ?_ | refine q1q ?_ | refine q1p ?_) | (show q1o ..; refine q1b ?_) | (refine And.intro (by kernel_rfl : q1r _ = true) ?_) | (show q0i ..; first | refine q0q ?_ | refine q0c ?_ | refine q1h (by kernel_rfl) ?_ | refine q0r ?_ | refine q0f ?_ | refine q0k ?_ | refine q0w ?_ | refine q0t ?_) | (show q1d ..; first | refine cd_t ?_ | refine cd_f ?_ | refine cd_n (fun _ => ?_) (fun _ => ?_) | refine cd_b (fun _ => ?_) (fun _ => ?_)) | refine q0a ?_ | refine q0m ?_ | refine q0l ?_ | refine q0v ?_ | refine q0g ?_ | refine q0x ?_ | refine bl_pass rfl ?_ | refine q1g ?_ | refine q1e ?_ | (show retQ ..; first | refine q0o ?_ | refine q0b ?_) | refine q0e ?_)
  all_goals first | (refine q2w ?_; unfold q5h; simp only [*, Bool.not_true, Bool.not_false, Bool.and_true, Bool.true_and, Bool.and_false, Bool.false_and, Bool.or_true, Bool.true_or, Bool.or_false, Bool.false_or, Bool.and_self, Bool.or_self, decide_true, decide_false, Bool.not_not, if_true, if_false, Bool.false_eq_true, eq_self]; done) | skip
  rename_i t1 t2 t3
  refine q3g (S := Nat) (fun n => w.objects.length - n) (fun n => n ≤ w.objects.length ∧ ∀ j, j < n → obAt w.objects j = true) (fun n => [(1, .ptr 0 0), (3, .int .i64 n)]) (fun _ => [(0, .box (Wd.enc w))]) (fun _ => 1) 0 ⟨Nat.zero_le _, fun j hj => absurd hj (Nat.not_lt_zero j)⟩ (by (refine q2q ?_ ?_ <;> repeat' (first | exact q2d | exact q2f | refine q1n (by (try simp only [go_sem, *]); try rfl) (by simp only [go_sem, *]) ?_ | refine q2g (by (try simp only [go_sem, *]); try rfl) (by omega) (by simp only [go_sem, *]) ?_ | refine q2e (by (try simp only [go_sem, *]); try rfl) (by omega) (by simp only [go_sem, *]) ?_))) ?_
  rintro n ⟨hn, hs⟩
  have fin : ∀ b, allB w.objects.length (obAt w.objects) = b → b = q5h w := fun b hb => by unfold q5h; rw [hb, t1, t2, t3]; rfl
  rcases Nat.lt_or_ge n w.objects.length with hlt | hge
  · obtain ⟨x, hx⟩ := q3j hlt
    have h0 := q3o hlt
    have h4 := q3d n (by omega)
    have hq := r13_sound x (ho x (List.mem_of_getElem? hx)).1 (ho x (List.mem_of_getElem? hx)).2
    cases n with
    | zero =>
      have e : obAt w.objects 0 = (sound x && true) := by unfold obAt; rw [hx]
      repeat' (first | (show q1a ..; first | refine q0d ?_ | refine q0p rfl ?_ | refine q1c rfl rfl ?_) | (show q1f ..; first | refine q0n rfl rfl ?_ | refine q0h rfl ?_) | (show goOn ..; first | refine q0s ?_ | refine q0u ?_ | refine q0y ?_) | (show q1k ..; refine q0j ?_) | (show q1u ..; (refine q0z (r := ?_) ?_ ?_; rotate_left 1; (focus exact hq))) | (show wGo ..; first | refine q1v ?_ | refine q2b ?_ | refine q1x ?_ | refine q1z ?_ | refine gw_u ?_ | refine q1w (fun _ => ?_) (fun _ => ?_) | refine q2a (fun _ => ?_) (fun _ => ?_) | refine q1y (fun _ => ?_) (fun _ => ?_) | refine q2c (fun _ => ?_) (fun _ => ?_)) | (show dr ..; first | refine q1l ?_ | refine dr_n rfl ?_ | refine q2t rfl rfl ?_) | (show drGo ..; first | refine q2i rfl ?_ | refine q1j rfl ?_) | (show drOn ..; first | refine q1m ?_ | refine q1q ?_ | refine q1p ?_) | (show q1o ..; refine q1b ?_) | (show q2h ..; (refine q1i (r := ?_) ?_ ?_; rotate_left 1; (focus exact hq))) | (refine And.intro (by kernel_rfl : q1r _ = true) ?_) | (show q0i ..; first | refine q0q ?_ | refine q0c ?_ | refine q1h (by kernel_rfl) ?_ | refine q0r ?_ | refine q0f ?_ | refine q0k ?_ | refine q0w ?_ | refine q0t ?_) | (show q1d ..; first | refine cd_t ?_ | refine cd_f ?_ | refine cd_n (fun _ => ?_) (fun _ => ?_) | refine cd_b (fun _ => ?_) (fun _ => ?_)) | refine q0a ?_ | refine q0m ?_ | refine q0l ?_ | refine q0v ?_ | refine q0g ?_ | refine q0x ?_ | refine bl_pass rfl ?_ | refine q1g ?_ | refine q1e ?_ | (show retQ ..; first | refine q0o ?_ | refine q0b ?_) | refine q0e ?_)
      all_goals first
        | (refine q2w (fin _ (q3s hlt ?_)); simp only [*, Bool.not_true, Bool.not_false, Bool.and_true, Bool.true_and, Bool.and_false, Bool.false_and, Bool.or_true, Bool.true_or, Bool.or_false, Bool.false_or, Bool.and_self, Bool.or_self, decide_true, decide_false, Bool.not_not, if_true, if_false, Bool.false_eq_true, eq_self])
        | (refine again (0 + 1) ⟨?_, q5t hs ?_⟩ ?_ (by (refine q2q ?_ ?_ <;> repeat' (first | exact q2d | exact q2f | refine q1n (by (try simp only [go_sem, *]); try rfl) (by simp only [go_sem, *]) ?_ | refine q2g (by (try simp only [go_sem, *]); try rfl) (by omega) (by simp only [go_sem, *]) ?_ | refine q2e (by (try simp only [go_sem, *]); try rfl) (by omega) (by simp only [go_sem, *]) ?_))); (focus omega); (focus simp only [*, Bool.not_true, Bool.not_false, Bool.and_true, Bool.true_and, Bool.and_false, Bool.false_and, Bool.or_true, Bool.true_or, Bool.or_false, Bool.false_or, Bool.and_self, Bool.or_self, decide_true, decide_false, Bool.not_not, if_true, if_false, Bool.false_eq_true, eq_self]); (focus omega))
    | succ j =>
      obtain ⟨y, hy⟩ := q3j (by omega : j < w.objects.length)
      have h5 := q9n j (by omega)
      have h6 := gt_prev j
      have e : obAt w.objects (j + 1) = (sound x && !decide (y.id ≥ x.id)) := by unfold obAt; rw [hx]; simp only [hy]
      repeat' (first | (show q1a ..; first | refine q0d ?_ | refine q0p rfl ?_ | refine q1c rfl rfl ?_) | (show q1f ..; first | refine q0n rfl rfl ?_ | refine q0h rfl ?_) | (show goOn ..; first | refine q0s ?_ | refine q0u ?_ | refine q0y ?_) | (show q1k ..; refine q0j ?_) | (show q1u ..; (refine q0z (r := ?_) ?_ ?_; rotate_left 1; (focus exact hq))) | (show wGo ..; first | refine q1v ?_ | refine q2b ?_ | refine q1x ?_ | refine q1z ?_ | refine gw_u ?_ | refine q1w (fun _ => ?_) (fun _ => ?_) | refine q2a (fun _ => ?_) (fun _ => ?_) | refine q1y (fun _ => ?_) (fun _ => ?_) | refine q2c (fun _ => ?_) (fun _ => ?_)) | (show dr ..; first | refine q1l ?_ | refine dr_n rfl ?_ | refine q2t rfl rfl ?_) | (show drGo ..; first | refine q2i rfl ?_ | refine q1j rfl ?_) | (show drOn ..; first | refine q1m ?_ | refine q1q ?_ | refine q1p ?_) | (show q1o ..; refine q1b ?_) | (show q2h ..; (refine q1i (r := ?_) ?_ ?_; rotate_left 1; (focus exact hq))) | (refine And.intro (by kernel_rfl : q1r _ = true) ?_) | (show q0i ..; first | refine q0q ?_ | refine q0c ?_ | refine q1h (by kernel_rfl) ?_ | refine q0r ?_ | refine q0f ?_ | refine q0k ?_ | refine q0w ?_ | refine q0t ?_) | (show q1d ..; first | refine cd_t ?_ | refine cd_f ?_ | refine cd_n (fun _ => ?_) (fun _ => ?_) | refine cd_b (fun _ => ?_) (fun _ => ?_)) | refine q0a ?_ | refine q0m ?_ | refine q0l ?_ | refine q0v ?_ | refine q0g ?_ | refine q0x ?_ | refine bl_pass rfl ?_ | refine q1g ?_ | refine q1e ?_ | (show retQ ..; first | refine q0o ?_ | refine q0b ?_) | refine q0e ?_)
      all_goals first
        | (refine q2w (fin _ (q3s hlt ?_)); simp only [*, Bool.not_true, Bool.not_false, Bool.and_true, Bool.true_and, Bool.and_false, Bool.false_and, Bool.or_true, Bool.true_or, Bool.or_false, Bool.false_or, Bool.and_self, Bool.or_self, decide_true, decide_false, Bool.not_not, if_true, if_false, Bool.false_eq_true, eq_self])
        | (refine again (j + 1 + 1) ⟨?_, q5t hs ?_⟩ ?_ (by (refine q2q ?_ ?_ <;> repeat' (first | exact q2d | exact q2f | refine q1n (by (try simp only [go_sem, *]); try rfl) (by simp only [go_sem, *]) ?_ | refine q2g (by (try simp only [go_sem, *]); try rfl) (by omega) (by simp only [go_sem, *]) ?_ | refine q2e (by (try simp only [go_sem, *]); try rfl) (by omega) (by simp only [go_sem, *]) ?_))); (focus omega); (focus simp only [*, Bool.not_true, Bool.not_false, Bool.and_true, Bool.true_and, Bool.and_false, Bool.false_and, Bool.or_true, Bool.true_or, Bool.or_false, Bool.false_or, Bool.and_self, Bool.or_self, decide_true, decide_false, Bool.not_not, if_true, if_false, Bool.false_eq_true, eq_self]); (focus omega))
  · have h0 := q2z hge
    repeat' (first | (show q1a ..; first | refine q0d ?_ | refine q0p rfl ?_ | refine q1c rfl rfl ?_) | (show q1f ..; first | refine q0n rfl rfl ?_ | refine q0h rfl ?_) | (show goOn ..; first | refine q0s ?_ | refine q0u ?_ | refine q0y ?_) | (show q1k ..; refine q0j ?_) | (show wGo ..; first | refine q1v ?_ | refine q2b ?_ | refine q1x ?_ | refine q1z ?_ | refine gw_u ?_ | refine q1w (fun _ => ?_) (fun _ => ?_) | refine q2a (fun _ => ?_) (fun _ => ?_) | refine q1y (fun _ => ?_) (fun _ => ?_) | refine q2c (fun _ => ?_) (fun _ => ?_)) | (show dr ..; first | refine q1l ?_ | refine dr_n rfl ?_ | refine q2t rfl rfl ?_) | (show drGo ..; first | refine q2i rfl ?_ | refine q1j rfl ?_) | (show drOn ..; first | refine q1m ?_ | refine q1q ?_ | refine q1p ?_) | (show q1o ..; refine q1b ?_) | (refine And.intro (by kernel_rfl : q1r _ = true) ?_) | (show q0i ..; first | refine q0q ?_ | refine q0c ?_ | refine q1h (by kernel_rfl) ?_ | refine q0r ?_ | refine q0f ?_ | refine q0k ?_ | refine q0w ?_ | refine q0t ?_) | (show q1d ..; first | refine cd_t ?_ | refine cd_f ?_ | refine cd_n (fun _ => ?_) (fun _ => ?_) | refine cd_b (fun _ => ?_) (fun _ => ?_)) | refine q0a ?_ | refine q0m ?_ | refine q0l ?_ | refine q0v ?_ | refine q0g ?_ | refine q0x ?_ | refine bl_pass rfl ?_ | refine q1g ?_ | refine q1e ?_ | (show retQ ..; first | refine q0o ?_ | refine q0b ?_) | refine q0e ?_)
    exact q2w (fin _ (q3v fun j hj => hs j (by omega)))
end Go.Proofs.YteibeoipnjhicaaGreat
end

section
namespace Go.Proofs.YteibeoipnjhicaaGreat
open Go Go.RowKit
set_option linter.unusedVariables false
set_option linter.unusedSimpArgs false
set_option maxHeartbeats 16000000
set_option maxRecDepth 100000
attribute [local irreducible] q1a dr q0i Ex.then Ex.inBlock retQ q1r q3f q3e Pure CSat evOp q2r rdOf upd hset strip sp0 cut envL q3h q4c Keep BdL evBs q3n q3z
def briefOb (o : Ob) : Bool := decide ((o.label.length : Int) ≤ 20) && (decide ((o.links.length : Int) ≤ 80) && (decide ((o.data.length : Int) ≤ 200) && (decide ((o.maps.length : Int) ≤ 20) && (decide ((o.inn.length : Int) ≤ 80) && (decide ((o.out.length : Int) ≤ 80) && decide ((o.thread.alerts.length : Int) ≤ 20))))))
end Go.Proofs.YteibeoipnjhicaaGreat
end
