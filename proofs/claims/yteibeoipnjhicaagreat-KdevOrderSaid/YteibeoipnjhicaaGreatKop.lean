import Derived.Test.YteibeoipnjhicaaGreatRz8
import Derived.Test.YteibeoipnjhicaaGreatRzB
namespace Go.Proofs.YteibeoipnjhicaaGreat
open Go Go.RowKit Go.ChangeShapes Go.WideShapes Go.Joins
set_option linter.unusedVariables false
set_option linter.unusedSimpArgs false
def In.wf (x : In) : Prop := (U x.dev) ∧ ((∀ y ∈ x.words, U y) ∧ x.words.length ≤ maxLen)
theorem In.opens : q4k Tryz.prog 62 In.enc In.wf := q4h (q4s (f := fun x : In => (x.dev, x.words)) (fun y => ⟨y.1, y.2⟩) (fun _ => rfl) (q4d Tryz.underlying62 (by kernel_rfl) (q2o (s := 1) rfl (by kernel_rfl) (q2u (k := .u64) Tryz.underlying22) (q4r (sz := 1) rfl (by kernel_rfl) opens_u64s)))) (fun y => by kernel_rfl) (fun y h => h)
theorem opens_Ins : q4k Tryz.prog 28 (fun l : List In => [.sl (l.map In.enc)]) (fun l => (∀ y ∈ l, In.wf y) ∧ l.length ≤ maxLen) := q3x (sz := 2) Tryz.underlying28 In.len (by kernel_rfl) (by decide) In.opens
theorem opens_args : q4k Tryz.prog 27 args (fun f => ∀ i, i < 7 → U (f i)) := q4h (q7w (n := 7) Tryz.underlying27 (by kernel_rfl) (by kernel_rfl) (q2u (k := .u64) Tryz.underlying22)) (fun y => rfl) (fun y h => h)
theorem okWide_array {P : Program} {w : World} {r : Reach} {b0 : Nat} {t e : TypeId} {n : Nat} {v : Value} (ht : P.underlying t = some (.array n e)) (h : Value.okWide P w r b0 t v) : ∃ cs, v = .agg cs ∧ cs.size = P.cellsOf t := by
  simp only [Value.okWide, ht] at h
  obtain ⟨cs, h1, h2, _⟩ := h
  exact ⟨cs, h1, h2⟩
theorem q9s {P : Program} {t e : TypeId} {n : Nat} {α : Type} {en : α → List PV} {wf : α → Prop} {H : Type} {enc : TypeId × Value → H} {w : World} {spare : Nat → Bool} {held : Bool} {r : Reach} {b0 : Nat} {v : Value} {dt : DataW H} {p : List MemPlace}
    (ht : P.underlying t = some (.array n e)) (h : q4k P t en wf) (hv : Value.okWide P w r b0 t v) (hd : DataW.Trod enc P w 0 spare held t v dt p) : ∃ y : α, wf y ∧ ∀ σ L, VR w NoM σ L v (.agg (en y)) := by
  obtain ⟨cs, rfl, hsz⟩ := okWide_array ht hv
  obtain ⟨fuel, hf⟩ := hd
  obtain ⟨y, hw, hk⟩ := h H enc w 0 spare held fuel _ _ hf
  exact ⟨y, hw, fun σ L => vr_aggc (hk σ L)⟩
end Go.Proofs.YteibeoipnjhicaaGreat
