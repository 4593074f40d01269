import Derived.Test.YteibeoipnjhicaaGreatEm2
import Derived.Test.YteibeoipnjhicaaGreatRep
namespace Go.Proofs.YteibeoipnjhicaaGreat
open Go Go.RowKit
set_option linter.unusedVariables false
set_option linter.unusedSimpArgs false
set_option maxHeartbeats 16000000
set_option maxRecDepth 100000
section
variable {w x : Wd} {ρ : Ob → Ob}
theorem rep_walk (h : Rep w x ρ) (hm : ∀ y, (ρ y).maps = y.maps) (t : Ob) (k : Nat) : q2v x t k = ((ρ (q2v w t k).1.1, (q2v w t k).1.2.1, (q2v w t k).1.2.2), (q2v w t k).2) := by
  unfold q2v
  rw [rep_see h]
  simp only [hm]
  split
  · unfold placeOf
    generalize mapR (seeR w t t.thread.space 3).1.maps k = M
    rw [rep_see h]
    simp only [hd_len (h.hd _)]
    split
    · split
      · split
        · simp only [h.z]
        · rfl
      · simp only [h.z]
    · simp only [h.z]
  · simp only [h.z]
end
theorem setO_hd (o : Ob) (a v : Int) : hd (setO o a v) = hd o := by
  unfold hd setO
  simp only [List.length_set]
theorem setO_sound {o : Ob} (a v : Int) (hk : (o.kind == 1) = true) (h : sound o = true) : sound (setO o a v) = true := by
  unfold sound soundHead inner aloneOf sameOb setO at *
  simp only [hk, if_true, List.length_set, decide_true] at h ⊢
  exact h
theorem one_maps {o p : Ob} (h : p.maps = o.maps) (y : Ob) : (one o p y).maps = y.maps := by
  by_cases e : y = o
  · rw [e, q5t, h]
  · rw [one_ne e]
end Go.Proofs.YteibeoipnjhicaaGreat
