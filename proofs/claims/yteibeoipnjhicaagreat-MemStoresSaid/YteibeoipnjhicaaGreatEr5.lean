import Derived.Test.YteibeoipnjhicaaGreatEr4
namespace Go.Proofs.YteibeoipnjhicaaGreat
open Go Go.RowKit
set_option linter.unusedVariables false
set_option linter.unusedSimpArgs false
set_option maxHeartbeats 16000000
set_option maxRecDepth 100000
theorem q5m {w : Wd} (h : fitW w = true) : q5c w = true := by
  unfold fitW at h
  simp only [Bool.and_eq_true] at h
  exact h.1.1
theorem thr_fit {t : Ob} (h : thrR t = true) : q4l t.label = true ∧ t.label.length ≤ 20 := by
  unfold thrR at h
  simp only [Bool.and_eq_true, decide_eq_true_eq] at h
  exact ⟨sound_fit h.2.2, by omega⟩
theorem one_self {a : Ob} (ha : a.L) : Pure Tryz.prog 31 [.agg (Ob.enc a), .agg (Ob.enc a)] (.bool true) := by
  have := r13_sameOne a a ha
  rw [sameOb_refl] at this; exact this
theorem zeroObL : Ob.zero.L := ⟨by decide, by decide, by decide, by decide, Th.zeroL, Gt.zeroL, by decide, by decide⟩
def ex17w : Wd := { Wd.zero with root := 1, objects := [{ Ob.zero with id := 1, kind := 2, quota := 3 }] }
theorem ex17_few : FewW ex17w := ⟨by decide, fun x hx => by simp only [ex17w, List.mem_singleton] at hx; subst hx; decide⟩
theorem ex17_fit : q5c ex17w = true := by decide +kernel
@[go_sem] theorem ex17_b1 (r : Int) (o : Ob) : q5d Tryz.prog 25 [(2, .int .u64 r), (3, .sl [Ob.enc o])] = some (.agg (Wd.enc ⟨0, 0, r, [o]⟩)) := by kernel_rfl
attribute [local irreducible] q0x dr q0g Ex.then Ex.inBlock retQ q1x q3g q3e Pure CSat evOp q2o rdOf upd hset strip sp0 cut envL q2u q4j Keep BdL evBs q3m q4g
theorem find_id {w : Wd} {id : Int} (h : (q4b w id).2 = true) : (q4b w id).1.id = id ∧ (q4b w id).1 ∈ w.objects := by
  unfold q4b at h ⊢
  split
  · rename_i x hx
    exact ⟨by have := List.find?_some hx; simpa using this, List.mem_of_find?_eq_some hx⟩
  · rename_i hx; rw [hx] at h; cases h
theorem links_found {w : Wd} (hw : fitW w = true) {d : Ob} (hd : d ∈ w.objects) {id : Int} (hi : id ∈ d.links) : (q4b w id).2 = true := by
  unfold fitW at hw
  simp only [Bool.and_eq_true] at hw
  obtain ⟨k, hk⟩ := List.getElem?_of_mem hd
  have h1 := allB_iff.1 hw.2.1 k (q4t hk)
  unfold treeAt at h1
  rw [hk] at h1
  simp only [Bool.and_eq_true] at h1
  have h2 := h1.1
  unfold linksR at h2
  simp only [Bool.and_eq_true] at h2
  obtain ⟨n, hn⟩ := List.getElem?_of_mem hi
  have h3 := allB_iff.1 h2.1 n (q4t hn)
  unfold linksAt at h3
  rw [hn] at h3
  simp only [Bool.and_eq_true] at h3
  exact h3.1
theorem dir_found {w : Wd} {t : Ob} {id : Int} {b : Bool} (h : ((dirR w t id b).2 == 0) = true) : (dirR w t id b).1 = (q4b w id).1 ∧ (q4b w id).2 = true ∧ seesR t (q4b w id).1 = true := by
  unfold dirR at h ⊢
  split at h
  · rename_i h1
    rw [if_pos h1]
    simp only [Bool.and_eq_true] at h1
    split at h
    · rename_i h2; rw [if_pos h2]; exact ⟨rfl, h1.1, h1.2.2⟩
    · simp at h
  · simp at h
end Go.Proofs.YteibeoipnjhicaaGreat
