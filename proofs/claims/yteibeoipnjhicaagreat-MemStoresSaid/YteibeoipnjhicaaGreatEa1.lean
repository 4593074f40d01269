import Derived.Test.YteibeoipnjhicaaGreatTp
namespace Go.Proofs.YteibeoipnjhicaaGreat
open Go Go.RowKit
set_option linter.unusedVariables false
set_option linter.unusedSimpArgs false
set_option maxHeartbeats 4000000
set_option maxRecDepth 100000
attribute [local irreducible] q0x dr q0g Ex.then Ex.inBlock retQ q1x q3g q3e Pure CSat evOp q2o rdOf upd hset strip sp0 cut envL q2u q4j Keep BdL evBs q3m q4g
def levFit (n : Int) : Bool := decide (n ≥ 0) && decide (n ≤ 5)
def levOf (n : Int) : Int := if levFit n = true then n else 2
def levLeq (a b : Int) : Bool := decide (levOf a ≤ levOf b)
theorem level_fit (n : Int) : Pure Tryz.prog 230 [.int .i64 n] (.bool (levFit n)) := by
  refine q2i (by kernel_rfl) (by simp only [go_sem, *]) (by simp only [go_sem, *]) Tryz.func230 Tryz.results230 rfl (by simp [Tryz.ntmps230]) (by kernel_rfl) ?_
  repeat' (first | (show q0x ..; first | refine q0d ?_ | refine q0p rfl ?_ | refine q0z rfl rfl ?_) | (show q1d ..; refine q0n rfl rfl ?_) | (show goOn ..; refine q0s ?_) | (show wGo ..; first | refine q1o ?_ | refine q1u ?_ | refine q1q ?_ | refine q1s ?_ | refine gw_u ?_ | refine q1p (fun _ => ?_) (fun _ => ?_) | refine q1t (fun _ => ?_) (fun _ => ?_) | refine q1r (fun _ => ?_) (fun _ => ?_) | refine q1v (fun _ => ?_) (fun _ => ?_)) | (show q0g ..; first | refine q0q ?_ | refine q0c ?_ | refine q0r ?_ | refine q0f ?_) | refine q0a ?_ | refine q0m ?_ | refine q0l ?_ | (show retQ ..; first | refine q0o ?_ | refine q0b ?_) | refine q0e ?_)
  all_goals (refine q2s ?_; simp_all [levFit] <;> omega)
theorem r01_fit (n : Int) : Pure Tryz.prog 110 [.int .i64 n] (.bool (levFit n)) := by
  refine q2i (by kernel_rfl) (by simp only [go_sem, *]) (by simp only [go_sem, *]) Tryz.func110 Tryz.results110 rfl (by simp [Tryz.ntmps110]) (by kernel_rfl) ?_
  repeat' (first | (show q0x ..; first | refine q0d ?_ | refine q0p rfl ?_ | refine q0z rfl rfl ?_) | (show q1d ..; refine q0n rfl rfl ?_) | (show goOn ..; refine q0s ?_) | (show wGo ..; first | refine q1o ?_ | refine q1u ?_ | refine q1q ?_ | refine q1s ?_ | refine gw_u ?_ | refine q1p (fun _ => ?_) (fun _ => ?_) | refine q1t (fun _ => ?_) (fun _ => ?_) | refine q1r (fun _ => ?_) (fun _ => ?_) | refine q1v (fun _ => ?_) (fun _ => ?_)) | (show q0g ..; first | refine q0q ?_ | refine q0c ?_ | refine q0r ?_ | refine q0f ?_) | refine q0a ?_ | refine q0m ?_ | refine q0l ?_ | (show retQ ..; first | refine q0o ?_ | refine q0b ?_) | refine q0e ?_)
  all_goals (refine q2s ?_; simp_all [levFit] <;> omega)
theorem r01_of (n : Int) : Pure Tryz.prog 125 [.int .i64 n] (.int .i64 (levOf n)) := by
  refine q2i (by kernel_rfl) (by simp only [go_sem, *]) (by simp only [go_sem, *]) Tryz.func125 Tryz.results125 rfl (by simp [Tryz.ntmps125]) (by kernel_rfl) ?_
  repeat' (first | (show q0x ..; first | refine q0d ?_ | refine q0p rfl ?_ | refine q0z rfl rfl ?_) | (show q1d ..; refine q0n rfl rfl ?_) | (show goOn ..; refine q0s ?_) | (show q1j ..; (refine q0u (r := ?_) ?_ ?_; rotate_left 1; (focus exact r01_fit _))) | (show wGo ..; first | refine q1o ?_ | refine q1u ?_ | refine q1q ?_ | refine q1s ?_ | refine gw_u ?_ | refine q1p (fun _ => ?_) (fun _ => ?_) | refine q1t (fun _ => ?_) (fun _ => ?_) | refine q1r (fun _ => ?_) (fun _ => ?_) | refine q1v (fun _ => ?_) (fun _ => ?_)) | (show q0g ..; first | refine q0q ?_ | refine q0c ?_ | refine q0r ?_ | refine q0f ?_ | refine q0k ?_) | (show q0y ..; first | refine cd_t ?_ | refine cd_f ?_ | refine cd_n (fun _ => ?_) (fun _ => ?_) | refine cd_b (fun _ => ?_) (fun _ => ?_)) | refine q0a ?_ | refine q0m ?_ | refine q0l ?_ | (show retQ ..; first | refine q0o ?_ | refine q0b ?_) | refine q0e ?_)
  all_goals (simp_all [levOf, levFit] <;> omega)
theorem r01_leq (a b : Int) : Pure Tryz.prog 77 [.int .i64 a, .int .i64 b] (.bool (levLeq a b)) := by
  refine q2i (by kernel_rfl) (by simp only [go_sem, *]) (by simp only [go_sem, *]) Tryz.func77 Tryz.results77 rfl (by simp [Tryz.ntmps77]) (by kernel_rfl) ?_
  repeat' (first | (show q0x ..; first | refine q0d ?_ | refine q0p rfl ?_) | (show q1d ..; first | refine q0n rfl rfl ?_ | refine q0h rfl ?_) | (show goOn ..; first | refine q0s ?_ | refine q0v ?_ | refine q0w ?_) | (show q1g ..; refine q0i ?_) | (show q1j ..; (refine q0u (r := ?_) ?_ ?_; rotate_left 1; (focus exact r01_of _))) | (show q0g ..; first | refine q0q ?_ | refine q0c ?_ | refine q0r ?_ | refine q0f ?_) | refine q0a ?_ | refine q0m ?_ | refine q0l ?_ | (show retQ ..; first | refine q0o ?_ | refine q0b ?_) | refine q0e ?_)
  all_goals rfl
def labFitAt (l : List Pr) (k : Nat) : Bool := match l[k]? with
  | none => true
  | some x => levFit x.lev && !(x.lev == 2) && (match k with
    | 0 => true
    | j + 1 => match l[j]? with
      | some y => !decide (y.cat ≥ x.cat)
      | none => true)
def q4l (l : List Pr) : Bool := allB l.length (labFitAt l)
end Go.Proofs.YteibeoipnjhicaaGreat
