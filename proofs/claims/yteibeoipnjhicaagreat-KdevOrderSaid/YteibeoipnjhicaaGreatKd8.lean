import Derived.Test.YteibeoipnjhicaaGreatKd5
import Derived.Test.YteibeoipnjhicaaGreatRz6
namespace Go.Proofs.YteibeoipnjhicaaGreat.kdev
open Go Go.RowKit Go.Proofs.YteibeoipnjhicaaGreat
set_option linter.unusedVariables false
set_option linter.unusedSimpArgs false
set_option maxHeartbeats 16000000
set_option maxRecDepth 100000
/-- The world with a device's inputs so. -/
def vn (w : Wd) (o : Ob) (q : List Int) : Wd := w.ins { o with inn := q }
section
variable {w : Wd} {o : Ob}
theorem vn_rep (g : Good w) (ho : o ∈ w.objects) (q : List Int) : Rep w (vn w o q) (one o { o with inn := q }) := q9j (q4p g.fit) ho rfl
theorem vn_good (g : Good w) (ho : o ∈ w.objects) (hk : (o.kind == 6) = true) {q : List Int} (hq : q.length ≤ 64) : Good (vn w o q) := dev_good g ho hk q o.out hq (q6s (q5g (q4p g.fit) ho) hk).2
theorem vn_thr (g : Good w) (ho : o ∈ w.objects) (hk : (o.kind == 6) = true) (q : List Int) {id : Int} (hi : isThr w id = true) : q2p (vn w o q) id = q2p w id := by
  rw [rep_find (vn_rep g ho q)]
  have : (q2p w id).1 ≠ o := fun e => by
    unfold isThr at hi
    rw [e, Bool.and_eq_true] at hi
    have h1 : o.kind = 4 := by simpa using hi.2
    have h2 : o.kind = 6 := by simpa using hk
    omega
  rw [one_ne this]
theorem vn_dev (g : Good w) (ho : o ∈ w.objects) (q : List Int) {t : Ob} {a : Nat → Int} (hd : devR w t a = (o, 0)) : devR (vn w o q) t a = ({ o with inn := q }, 0) := by
  unfold devR at hd ⊢
  rw [rep_change (vn_rep g ho q), hd, q8n]
theorem vn_vn (g : Good w) (q r : List Int) : (vn w o q).ins { o with inn := r } = vn w o r := over_ext (q5d (q4p g.fit)).1 rfl
theorem vn_nil (g : Good w) (ho : o ∈ w.objects) {t : Ob} {a : Nat → Int} (hd : devR w t a = (o, 0)) : q4y (vn w o []) t 42 a = (vn w o [], 0, 9, true) := by
  unfold q4y inR
  rw [vn_dev g ho [] hd]; rfl
theorem vn_cons (g : Good w) (ho : o ∈ w.objects) {t : Ob} {a : Nat → Int} (hd : devR w t a = (o, 0)) (v : Int) (q : List Int) : q4y (vn w o (v :: q)) t 42 a = (vn w o q, v, 0, true) := by
  unfold q4y inR
  rw [vn_dev g ho _ hd]
  show ((vn w o (v :: q)).ins { o with inn := q }, v, 0, true) = _
  rw [vn_vn g]
theorem feed_vn {w : Wd} {x : Int} {l : List Int} (hk : ((q2p w x).1.kind == 6) = true) : q5p w [⟨x, l⟩] = vn w (q2p w x).1 (((q2p w x).1.inn ++ l).take 64) := by
  show q9m w ⟨x, l⟩ = _
  unfold q9m
  rw [if_pos hk]; rfl
/-- Beside an error of naming, nothing of the feeding is seen. -/
theorem feed_err {w : Wd} (g : Good w) {x id : Int} {l : List Int} (hi : isThr w id = true) {a : Nat → Int} (he : ((devR w (q2p w id).1 a).2 == 0) = false) :
    q4y (q5p w [⟨x, l⟩]) (q2p (q5p w [⟨x, l⟩]) id).1 42 a = (q5p w [⟨x, l⟩], 0, (devR w (q2p w id).1 a).2, true) := by
  have key : (devR (q5p w [⟨x, l⟩]) (q2p (q5p w [⟨x, l⟩]) id).1 a).2 = (devR w (q2p w id).1 a).2 := by
    show (devR (q9m w ⟨x, l⟩) (q2p (q9m w ⟨x, l⟩) id).1 a).2 = _
    unfold q9m
    split
    · rename_i hk
      obtain ⟨_, hm⟩ := q9y hk
      have h1 := vn_thr g hm hk (((q2p w x).1.inn ++ l).take 64) hi
      show (devR (vn w (q2p w x).1 _) (q2p (vn w (q2p w x).1 _) id).1 a).2 = _
      rw [h1]
      unfold devR
      rw [rep_change (vn_rep g hm _)]
    · rfl
  unfold q4y inR
  rw [key, he]; rfl
theorem dev_is {w : Wd} (g : Good w) {t : Ob} {a : Nat → Int} (he : ((devR w t a).2 == 0) = true) : devR w t a = ((q2p w (a 1)).1, 0) ∧ ((q2p w (a 1)).1.kind == 6) = true ∧ (q2p w (a 1)).1 ∈ w.objects ∧ (q2p w (a 1)).2 = true := by
  obtain ⟨h1, h2, h3⟩ := q6g (w := w) (t := t) (r := ⟨a 0, a 1⟩) (k := 6) g.fit rfl he
  have e1 : (devR w t a).1 = (q2p w (a 1)).1 := by
    have he' := he
    unfold devR q4b at he' ⊢
    split at he'
    · rename_i hs
      rw [if_pos hs]
      split at he'
      · rename_i hc
        rw [if_pos hc]
        obtain ⟨_, _, h5⟩ := see_in g.fit hs
        rw [h5]
        unfold seeR at hs
        split at hs
        · rename_i hl
          unfold q5u at hl ⊢
          split at hl
          · rename_i h6
            rw [if_pos h6]
            split at hl
            · rename_i h7; rw [if_pos h7]
            · cases hl
          · rename_i h6; exact absurd hl h6
        · rename_i h6; exact absurd hs h6
      · cases he'
    · rename_i hs; exact absurd he' hs
  have e2 : (devR w t a).2 = 0 := by simpa using he
  have hk : ((q2p w (a 1)).1.kind == 6) = true := by rw [← e1]; exact h2
  exact ⟨Prod.ext e1 e2, hk, (q9y hk).2, (q9y hk).1⟩
theorem out_find {w : Wd} (g : Good w) {x v : Int} (hk : ((q2p w x).1.kind == 6) = true) : q2p (w.ins (outO (q2p w x).1 v)) x = (outO (q2p w x).1 v, true) := by
  obtain ⟨h1, hm⟩ := q9y hk
  rw [rep_find (q9j (q4p g.fit) hm (p := outO (q2p w x).1 v) rfl), q8n, h1]
end
end Go.Proofs.YteibeoipnjhicaaGreat.kdev
