import Derived.Test.YteibeoipnjhicaaGreatEc2
import Derived.Test.YteibeoipnjhicaaGreatLpo
import Derived.Test.YteibeoipnjhicaaGreatEb9
namespace Go.Proofs.YteibeoipnjhicaaGreat
open Go Go.RowKit
set_option linter.unusedVariables false
set_option linter.unusedSimpArgs false
set_option maxHeartbeats 16000000
set_option maxRecDepth 100000
def Wd.ins (w : Wd) (o : Ob) : Wd := { w with objects := insR o w.objects }
theorem ins_ris {w : Wd} (h : RisO w.objects) (o : Ob) : RisO (w.ins o).objects := insR_ris h
theorem ins_len (w : Wd) (o : Ob) : (w.ins o).objects.length ≤ w.objects.length + 1 := insR_len o _
theorem ins_L {w : Wd} (h : w.L) {o : Ob} (ho : o.L) (hl : o.label.length ≤ 900000) (hn : w.objects.length ≤ 100000) : (w.ins o).L := by
  refine ⟨by have := ins_len w o; omega, fun x hx => ?_⟩
  rcases insR_mem hx with rfl | hx
  · exact ⟨ho, hl⟩
  · exact h.2 x hx
theorem wd_ext {a b : Wd} (h1 : a.time = b.time) (h2 : a.key = b.key) (h3 : a.root = b.root) (h4 : RisO a.objects) (h5 : RisO b.objects) (h6 : ∀ id, fnd a.objects id = fnd b.objects id) : a = b := by
  obtain ⟨t, k, r, l⟩ := a
  obtain ⟨t', k', r', l'⟩ := b
  simp only at h1 h2 h3
  subst h1 h2 h3
  have := ris_ext h4 h5 h6
  simp only at this
  rw [this]
theorem put_c (w : Wd) (o : Ob) (hr : RisO w.objects) (hl : w.objects.length ≤ 1000) : Pure Tryz.prog 69 [.agg (Wd.enc w), .agg (Ob.enc o)] (.agg (Wd.enc (w.ins o))) := by
  have := obj_put w o (by omega) hr
  rw [(putW_eq hr hl).1] at this; exact this
theorem putR_c (w : Wd) (o : Ob) (hr : RisO w.objects) (hl : w.objects.length ≤ 1000) : Pure Tryz.prog 67 [.agg (Wd.enc w), .agg (Ob.enc o)] (.agg (Wd.enc (w.ins o))) := by
  have := r13_put w o (by omega)
  rw [(putW_eq hr hl).2] at this; exact this
theorem same_c {a b : Wd} (ha : a.L) (h : a = b) : Pure Tryz.prog 26 [.agg (Wd.enc a), .agg (Wd.enc b)] (.bool true) := by
  subst h
  have := r13_sameW a a ha
  rw [sameWd_refl] at this; exact this
attribute [local irreducible] q1a dr q0i Ex.then Ex.inBlock retQ q1r q3f q3e Pure CSat evOp q2r rdOf upd hset strip sp0 cut envL q3h q4c Keep BdL evBs q3n q3z
end Go.Proofs.YteibeoipnjhicaaGreat
