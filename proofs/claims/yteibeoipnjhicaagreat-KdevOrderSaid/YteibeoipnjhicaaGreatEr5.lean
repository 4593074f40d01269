import Derived.Test.YteibeoipnjhicaaGreatEr4
namespace Go.Proofs.YteibeoipnjhicaaGreat
open Go Go.RowKit
set_option linter.unusedVariables false
set_option linter.unusedSimpArgs false
set_option maxHeartbeats 16000000
set_option maxRecDepth 100000
theorem q4p {w : Wd} (h : fitW w = true) : q5h w = true := by
  unfold fitW at h
  simp only [Bool.and_eq_true] at h
  exact h.1.1
theorem one_self {a : Ob} (ha : a.L) : Pure Tryz.prog 31 [.agg (Ob.enc a), .agg (Ob.enc a)] (.bool true) := by
  have := q6e a a ha
  rw [q9g] at this; exact this
@[go_sem] theorem ex17_b4 (a b : Int) : q4l Tryz.prog 47 [(0, .int .u64 a), (1, .int .u64 b)] = some (.agg (Rf.enc ⟨a, b⟩)) := by kernel_rfl
attribute [local irreducible] q1a dr q0i Ex.then Ex.inBlock retQ q1r q3f q3e Pure CSat evOp q2r rdOf upd hset strip sp0 cut envL q3h q4c Keep BdL evBs q3n q3z
theorem find_id {w : Wd} {id : Int} (h : (q2p w id).2 = true) : (q2p w id).1.id = id ∧ (q2p w id).1 ∈ w.objects := by
  unfold q2p at h ⊢
  split
  · rename_i x hx
    exact ⟨by have := List.find?_some hx; simpa using this, List.mem_of_find?_eq_some hx⟩
  · rename_i hx; rw [hx] at h; cases h
theorem links_found {w : Wd} (hw : fitW w = true) {d : Ob} (hd : d ∈ w.objects) {id : Int} (hi : id ∈ d.links) : (q2p w id).2 = true := by
  unfold fitW at hw
  simp only [Bool.and_eq_true] at hw
  obtain ⟨k, hk⟩ := List.getElem?_of_mem hd
  have h1 := allB_iff.1 hw.2.1 k (q5f hk)
  unfold q6v at h1
  rw [hk] at h1
  simp only [Bool.and_eq_true] at h1
  have h2 := h1.1
  unfold q7p at h2
  simp only [Bool.and_eq_true] at h2
  obtain ⟨n, hn⟩ := List.getElem?_of_mem hi
  have h3 := allB_iff.1 h2.1 n (q5f hn)
  unfold q6q at h3
  rw [hn] at h3
  simp only [Bool.and_eq_true] at h3
  exact h3.1
theorem dir_found {w : Wd} {t : Ob} {id : Int} {b : Bool} (h : ((dirR w t id b).2 == 0) = true) : (dirR w t id b).1 = (q2p w id).1 ∧ (q2p w id).2 = true ∧ q7q t (q2p w id).1 = true := by
  unfold dirR at h ⊢
  split at h
  · rename_i h1
    rw [if_pos h1]
    simp only [Bool.and_eq_true] at h1
    split at h
    · rename_i h2; rw [if_pos h2]; exact ⟨rfl, h1.1, h1.2.2⟩
    · simp at h
  · simp at h
end Go.Proofs.YteibeoipnjhicaaGreat
