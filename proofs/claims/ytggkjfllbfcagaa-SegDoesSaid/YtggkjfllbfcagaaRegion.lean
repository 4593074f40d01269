import Derived.Test.YtggkjfllbfcagaaBase
import Derived.Deep.Quiet
import Derived.Deep.QuietTactic
import Derived.BigQuiet
namespace Go.Proofs.Ytggkjfllbfcagaa
open Go Go.RowKit Go.Proofs.YtggkjfllbfcagaaW.PrintWords Go.Proofs.YtggkjfllbfcagaaW.PrintLast Go.Proofs.YtggkjfllbfcagaaW.PrintMore

/-! A region that draws its order, whose operations read, and whose callees make memory: one walk in the order of the text, in whatever world that has grown out of the one at hand. -/
open Classical in
/-- x, where it has grown out of w; else w. -/
noncomputable def ov (w x : World) : World := if Below w.heap.size w x then x else w
theorem ov_below (w x : World) : Below w.heap.size w (ov w x) := by
  unfold ov; split
  · assumption
  · exact Below.refl _ _
theorem ov_of {w x : World} (h : Below w.heap.size w x) : ov w x = x := if_pos h
theorem ov_cell {w x : World} {a : Addr} (h : a.block < w.heap.size) : (ov w x).cell? a = w.cell? a := (ov_below w x).cell h
theorem ov_frozen {w x : World} {a : Addr} (h : a.block < w.heap.size) : (ov w x).frozen? a = w.frozen? a := (ov_below w x).frozen h
theorem wp_region_ov {P : Program} {id : Nat} {Q : Exit → Act → World → Prop} {a : Act} {w : World} {l : List Oper} (hm : P.follows .mixedOrders = true) (hB : Region.lexB .any l.toArray = true)
    (h : wpQuiet P l.toArray (fun w' => ∃ x, w' = ov w x) (fun a' => ∀ w', Below w.heap.size w w' → Q .normal a' w') l a) : (Code.region id l.toArray true).wp P Q a w := by
  have hq : ∀ {a : Act} {l' : List Oper}, wpQuiet P l.toArray (fun w' => ∃ x, w' = ov w x) (fun a' => ∀ w', Below w.heap.size w w' → Q .normal a' w') l' a →
      wpQuiet P l.toArray (fun w' => ∃ x, w' = ov w x) (fun a' => ∀ w', (∃ x, w' = ov w x) → Q .normal a' w') l' a := by
    intro a l'
    induction l' generalizing a with
    | nil => rintro h w' ⟨x, rfl⟩; exact h _ (ov_below w x)
    | cons o l' ih =>
      intro h
      unfold wpQuiet at h ⊢
      split
      · rename_i hw; simp only [hw, if_true] at h; exact Oper.quiet_mono (fun _ => ih) h
      · rename_i hw; simp only [hw] at h; exact ih h
  refine wp_region_quiet (C := fun w' => ∃ x, w' = ov w x) hm hB ⟨w.drew, (ov_of (Below.refl _ _).drew).symm⟩ (by simpa using hq h)
/-- A callee that makes memory, in such a world. -/
theorem Calls_ov {P : Program} {f : FuncId} {args : Array Value} {w x : World} {v : Value}
    (h : Calls P f args (ov w x) fun e w' => e = .returned v ∧ Below (ov w x).heap.size (ov w x) w') : Calls P f args (ov w x) fun e w'' => e = .returned v ∧ ∃ y, w'' = ov w y :=
  h.mono fun _ w'' ⟨he, hb⟩ => ⟨he, w'', (ov_of ((ov_below w x).trans (hb.mono (ov_below w x).size))).symm⟩
theorem Calls_ov_same {P : Program} {f : FuncId} {args : Array Value} {w x : World} {v : Value}
    (h : Calls P f args (ov w x) fun e w' => e = .returned v ∧ w' = ov w x) : Calls P f args (ov w x) fun e w'' => e = .returned v ∧ ∃ y, w'' = ov w y :=
  h.mono fun _ _ ⟨he, hb⟩ => ⟨he, x, hb⟩
theorem bel_set {n g : Nat} {A B : World} (h : Below n A B) (hp : n ≤ g) (i : Nat) (u : Value) : Below n A (B.setCell ⟨g, i, none⟩ u) := h.setCell (p := ⟨g, i, none⟩) hp u
theorem blk_far' {w : World} {g g' : Nat} {t : TypeId} {cs : Array Value} (h : w.heap[g]? = some (.cells cs t (0, 0))) (hp : g ≠ g') (i : Nat) (u : Value) : (w.setCell ⟨g', i, none⟩ u).heap[g]? = some (.cells cs t (0, 0)) := blk_far (p := ⟨g', i, none⟩) h hp u
theorem blk_set1 {w : World} {g : Nat} {t : TypeId} {v u : Value} (h : w.heap[g]? = some (.cells #[v] t (0, 0))) : (w.setCell ⟨g, 0, none⟩ u).heap[g]? = some (.cells #[u] t (0, 0)) := blk_set h 0 u
theorem blk_at {w : World} {o : Obj} {n : Nat} (h : n = w.heap.size) : (w.alloc o).heap[n]? = some o := by subst h; exact blk_new w o
end Go.Proofs.Ytggkjfllbfcagaa
