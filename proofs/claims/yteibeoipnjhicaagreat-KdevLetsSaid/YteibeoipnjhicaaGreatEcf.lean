import Derived.Test.YteibeoipnjhicaaGreatEc1
namespace Go.Proofs.YteibeoipnjhicaaGreat
open Go Go.RowKit
set_option linter.unusedVariables false
set_option linter.unusedSimpArgs false
set_option maxHeartbeats 16000000
set_option maxRecDepth 100000
attribute [go_sem] q2s
attribute [local irreducible] q1a dr q0i Ex.then Ex.inBlock retQ q1r q3f q3e Pure CSat evOp q2r rdOf upd hset strip sp0 cut envL q3h q4c Keep BdL evBs q3n q3z
@[go_sem] theorem lsO_bd (S : Nat → Prop) (l : List Ob) : BdL S (Ls.enc (LsO l)) = True := eq_true (lsG_bd S l)
theorem obj_at (l : List Ob) (id : Int) (hl : l.length ≤ 1000000) (hs : RisO l) : Pure Tryz.prog 113 [.agg (Ls.enc (LsO l)), .int .u64 id] (.tup [.int .i64 (posO l id), .bool (hitO l id)]) := by
  refine q2y (by kernel_rfl) (by simp only [go_sem, *]) (by simp only [go_sem, *]) Tryz.func113 Tryz.results113 rfl (by simp [Tryz.ntmps113]) (by kernel_rfl) ?_
  have h := search_ob l id hl hs
  unfold lsG at h
  rw [← hset_heapL] at h
  repeat' (first | (show q1a ..; first | refine q0d ?_ | refine q0p rfl ?_) | (show q1f ..; first | refine q0n rfl rfl ?_ | refine q0h rfl ?_) | (show goOn ..; first | refine q0s ?_ | refine q0u ?_ | refine q0y ?_) | (show q1k ..; refine q0j ?_) | (show q0i ..; first | refine q0q ?_ | refine q0c ?_ | refine q0r ?_ | refine q0f ?_) | refine q0a ?_ | refine q0m ?_ | refine q0l ?_ | (show retQ ..; first | refine q0o ?_ | refine q0b ?_) | refine q0e ?_)
  (refine q2j (by kernel_rfl) (h) ?_ ?_)
  case refine_2 => rintro p H' m' h; cases h
  rintro r H' m' h
  cases h
  repeat' (first | (show q1a ..; first | refine q0d ?_ | refine q0p rfl ?_) | (show q1f ..; first | refine q0n rfl rfl ?_ | refine q0h rfl ?_) | (show goOn ..; first | refine q0s ?_ | refine q0u ?_ | refine q0y ?_) | (show q1k ..; refine q0j ?_) | (show q0i ..; first | refine q0q ?_ | refine q0c ?_ | refine q0r ?_ | refine q0f ?_) | refine q0a ?_ | refine q0m ?_ | refine q0l ?_ | (show retQ ..; first | refine q0o ?_ | refine q0b ?_) | refine q0e ?_)
  all_goals rfl
theorem q7m (w : Wd) : Pure Tryz.prog 112 [.agg (Wd.enc w)] (.agg (Ls.enc (LsO w.objects))) := by
  refine q2y (by kernel_rfl) (by simp only [go_sem, *]) (by simp only [go_sem, *]) Tryz.func112 Tryz.results112 rfl (by simp [Tryz.ntmps112]) (by kernel_rfl) ?_
  repeat' (first | (show q1a ..; first | refine q0d ?_ | refine q0p rfl ?_) | (show q1f ..; refine q0n rfl rfl ?_) | (show goOn ..; first | refine q0s ?_ | refine q0u ?_ | refine q0y ?_) | (show q1k ..; refine q0j ?_) | (show q0i ..; first | refine q0q ?_ | refine q0c ?_ | refine q0r ?_ | refine q0f ?_) | refine q0a ?_ | refine q0m ?_ | refine q0l ?_ | (show retQ ..; first | refine q0o ?_ | refine q0b ?_) | refine q0e ?_)
  all_goals rfl
theorem hit_lt {l : List Ob} {id : Int} (h : hitO l id = true) : ∃ x, l[posO l id]? = some x ∧ x.id = id ∧ posO l id < l.length := by
  unfold hitO at h
  split at h
  · rename_i x hx; exact ⟨x, hx, by simpa using h, q5f hx⟩
  · cases h
def findO (w : Wd) (id : Int) : Ob × Bool := if hitO w.objects id = true then ((w.objects[posO w.objects id]?).getD Ob.zero, true) else (Ob.zero, false)
theorem obj_find (w : Wd) (id : Int) (hl : w.objects.length ≤ 1000000) (hs : RisO w.objects) : Pure Tryz.prog 63 [.agg (Wd.enc w), .int .u64 id] (.tup [.agg (Ob.enc (findO w id).1), .bool (findO w id).2]) := by
  have hat := obj_at w.objects id hl hs
  cases hh : hitO w.objects id with
  | true =>
    rw [hh] at hat
    obtain ⟨y, hy, hyid, hk⟩ := hit_lt hh
    have hf : findO w id = (y, true) := by unfold findO; rw [if_pos hh, hy]; rfl
    rw [hf]
    clear hh hf
    refine q2y (by kernel_rfl) (by simp only [go_sem, *]) (by simp only [go_sem, *]) Tryz.func63 Tryz.results63 rfl (by simp [Tryz.ntmps63]) (by kernel_rfl) ?_
    repeat' (first | (show q1a ..; first | refine q0d ?_ | refine q0p rfl ?_) | (show q1f ..; first | refine q0n rfl rfl ?_ | refine q0h rfl ?_) | (show goOn ..; first | refine q0s ?_ | refine q0u ?_ | refine q0y ?_) | (show q1k ..; refine q0j ?_) | (show q1u ..; (refine q0z (r := ?_) ?_ ?_; rotate_left 1; (focus first | exact q7m _ | exact hat))) | (show q0i ..; first | refine q0q ?_ | refine q0c ?_ | refine q0r ?_ | refine q0f ?_ | refine q0t ?_) | (show q1d ..; first | refine cd_t ?_ | refine cd_f ?_ | refine cd_n (fun _ => ?_) (fun _ => ?_) | refine cd_b (fun _ => ?_) (fun _ => ?_)) | refine q0a ?_ | refine q0m ?_ | refine q0l ?_ | (show retQ ..; first | refine q0o ?_ | refine q0b ?_) | refine q0e ?_)
    all_goals rfl
  | false =>
    rw [hh] at hat
    have hf : findO w id = (Ob.zero, false) := by unfold findO; rw [if_neg (by rw [hh]; simp)]
    rw [hf]
    clear hh hf
    refine q2y (by kernel_rfl) (by simp only [go_sem, *]) (by simp only [go_sem, *]) Tryz.func63 Tryz.results63 rfl (by simp [Tryz.ntmps63]) (by kernel_rfl) ?_
    repeat' (first | (show q1a ..; first | refine q0d ?_ | refine q0p rfl ?_) | (show q1f ..; first | refine q0n rfl rfl ?_ | refine q0h rfl ?_) | (show goOn ..; first | refine q0s ?_ | refine q0u ?_ | refine q0y ?_) | (show q1k ..; refine q0j ?_) | (show q1u ..; (refine q0z (r := ?_) ?_ ?_; rotate_left 1; (focus first | exact q7m _ | exact hat))) | (show q0i ..; first | refine q0q ?_ | refine q0c ?_ | refine q0r ?_ | refine q0f ?_ | refine q0t ?_) | (show q1d ..; first | refine cd_t ?_ | refine cd_f ?_ | refine cd_n (fun _ => ?_) (fun _ => ?_) | refine cd_b (fun _ => ?_) (fun _ => ?_)) | refine q0a ?_ | refine q0m ?_ | refine q0l ?_ | (show retQ ..; first | refine q0o ?_ | refine q0b ?_) | refine q0e ?_)
    all_goals rfl
def withL (l : List Ob) (x : Ob) : List Ob := if hitO l x.id = true then l.set (posO l x.id) x else l.take (posO l x.id) ++ x :: l.drop (posO l x.id)
def putW (w : Wd) (o : Ob) : Wd := if decide (((withL w.objects o).length : Int) ≤ 1024) = true then { w with objects := withL w.objects o } else w
end Go.Proofs.YteibeoipnjhicaaGreat
