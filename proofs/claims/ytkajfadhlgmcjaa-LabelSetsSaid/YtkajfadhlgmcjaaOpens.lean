import Derived.Test.YtkajfadhlgmcjaaBase
import Derived.Deep.Slices
import Derived.Lib.SmallJoins
import Derived.ChangeOld
namespace Go.Proofs.Ytkajfadhlgmcjaa
open Go Go.RowKit Go.ChangeShapes Go.WideShapes Go.Joins Go.Proofs.YtkajfadhlgmcjaaW.PrintWords Go.Proofs.YtkajfadhlgmcjaaW.PrintLast Go.Proofs.YtkajfadhlgmcjaaW.PrintMore
set_option linter.unusedVariables false
/-! What a row hands over, told as the print's kinds: type by type. -/
/-- W' has all of w's blocks as they are. -/
def Blocks (w W' : World) : Prop := ∀ k, k < w.heap.size → W'.heap[k]? = w.heap[k]?
theorem Blocks.refl (w : World) : Blocks w w := fun _ _ => rfl
theorem Blocks.cell {w W' : World} (h : Blocks w W') {a : Addr} {v : Value} (hc : w.cell? a = some v) : W'.cell? a = some v := by
  have hlt := World.block_lt_of_cell? w a hc
  rw [← hc]
  unfold World.cell?
  rw [h a.block hlt]
def Opens {α : Type} (P : Program) (t : TypeId) (d : Kd α) (wf : α → Prop) : Prop :=
  ∀ (H : Type) (enc : TypeId × Value → H) (w : World) (base : Nat) (spare : Nat → Bool) (held : Bool) (fuel : Nat) (cs : List Value) (x : DataW H × List MemPlace), DataW.trod enc P w base spare held fuel t cs = some x →
    ∃ y, wf y ∧ ∀ W', Blocks w W' → d.K W' y cs
section
variable {P : Program} {t e : TypeId}
theorem opens_int {k : IntKind} (ht : P.underlying t = some (.int k)) : Opens P t (Kd.int k) (fun n => (Lit.int k n).wf = true) := by
  intro H enc w base spare held fuel cs x h
  obtain ⟨n, rfl, _, hw⟩ := DataW.trod_int ht h
  exact ⟨n, hw, fun _ _ => rfl⟩
theorem opens_bool (ht : P.underlying t = some .bool) : Opens P t Kd.bool (fun _ => True) := by
  intro H enc w base spare held fuel cs x h
  obtain ⟨b, rfl, _⟩ := DataW.trod_bool ht h
  exact ⟨b, trivial, fun _ _ => rfl⟩
theorem opens_string (ht : P.underlying t = some .string) : Opens P t Kd.string (fun _ => True) := by
  intro H enc w base spare held fuel cs x h
  obtain ⟨b, rfl, _, _⟩ := DataW.trod_string ht h
  exact ⟨b, trivial, fun _ _ => rfl⟩
theorem opens_iso {α β : Type} {d : Kd α} {wf : α → Prop} {f : β → α} (g : α → β) (hg : ∀ x, f (g x) = x) (h : Opens P t d wf) : Opens P t (Kd.iso d f) (fun y => wf (f y)) := by
  intro H enc w base spare held fuel cs x hx
  obtain ⟨y, hw, hk⟩ := h H enc w base spare held fuel cs x hx
  exact ⟨g y, by show wf (f (g y)); rw [hg]; exact hw, fun W' hW => by show d.K W' (f (g y)) cs; rw [hg]; exact hk W' hW⟩
theorem opens_mono {α : Type} {d : Kd α} {wf wf' : α → Prop} (h : Opens P t d wf) (hw : ∀ y, wf y → wf' y) : Opens P t d wf' := by
  intro H enc w base spare held fuel cs x hx
  obtain ⟨y, h1, h2⟩ := h H enc w base spare held fuel cs x hx
  exact ⟨y, hw y h1, h2⟩
theorem opens_slice {α : Type} [Inhabited α] {d : Kd α} {wf : α → Prop} (ht : P.underlying t = some (.slice e)) (hs : P.cellsOf e = d.sz) (h : Opens P e d wf) : Opens P t (Kd.slice e d) (fun l => (∀ y ∈ l, wf y) ∧ l.length ≤ maxLen) := by
  intro H enc w base spare held fuel cs x hx
  rcases Go.Deep.open_slice ht hx with ⟨rfl, _⟩ | ⟨a, len, cap, m, n, D, Pl, rfl, _, hl, hm, hmm, _, he⟩
  · exact ⟨[], ⟨by simp, by simp⟩, fun W' _ => ⟨none, 0, rfl, Nat.le_refl _, rfl, by simp, by simp⟩⟩
  · have hle : len ≤ m := by rw [hmm]; split <;> omega
    have each : ∀ i, i < len → ∃ y, wf y ∧ ∃ cs', cs'.length = d.sz ∧ (∀ j u, cs'[j]? = some u → w.cell? (a.add (i * d.sz + j)) = some u) ∧ ∀ W', Blocks w W' → d.K W' y cs' := by
      intro i hi
      obtain ⟨cs', h1, h2⟩ := he i (by omega)
      obtain ⟨y, hw, hk⟩ := h H enc w base spare held n cs' _ h2
      rw [hs] at h1
      obtain ⟨g1, g2, g3⟩ := World.cells?_some h1
      refine ⟨y, hw, cs', g2, fun j u hj => ?_, hk⟩
      have hjl : j < d.sz := by rw [← g2]; exact (List.getElem?_eq_some_iff.1 hj).1
      have := g3 j hjl
      rw [Go.Deep.add_add] at this
      rw [this]
      exact hj
    obtain ⟨f, hf⟩ := Go.Deep.choose_lt each
    refine ⟨(List.range len).map f, ⟨?_, by simp; unfold maxLen at hm ⊢; omega⟩, fun W' hW => ⟨some a, cap, by simp, by simpa using hl, by simp, by simp; unfold maxLen at hm; omega, fun _ => ⟨a, rfl, fun j p hp => ?_⟩⟩⟩
    · intro y hy
      obtain ⟨i, hi, rfl⟩ := List.mem_map.1 hy
      exact (hf i (by simpa using hi)).1
    · rw [List.getElem?_map] at hp
      obtain ⟨i, hi, rfl⟩ := Option.map_eq_some_iff.1 hp
      have hj : j < len := by have := (List.getElem?_eq_some_iff.1 hi).1; simpa using this
      have : i = j := by have := (List.getElem?_eq_some_iff.1 hi).2; simp at this; omega
      subst this
      obtain ⟨_, cs', g1, g2, g3⟩ := hf i hj
      exact ⟨cs', g1, g3 W' hW, fun j u hu => hW.cell (g2 j u hu)⟩
/-- A struct's fields from an offset on. -/
def OpensFs {α : Type} (P : Program) (fs : List Field) (off : Nat) (d : Kd α) (wf : α → Prop) : Prop :=
  ∀ (H : Type) (enc : TypeId × Value → H) (w : World) (base : Nat) (spare : Nat → Bool) (held : Bool) (n : Nat) (cs : List Value), cs.length = off + d.sz →
    (∀ f ∈ fs, ∃ x : DataW H × List MemPlace, DataW.trod enc P w base spare held n f.type ((cs.drop f.offset).take (P.cellsOf f.type)) = some x) →
    ∃ y, wf y ∧ ∀ W', Blocks w W' → d.K W' y (cs.drop off)
theorem opens_one {α : Type} {f : Field} {off : Nat} {d : Kd α} {wf : α → Prop} (ho : f.offset = off) (hs : P.cellsOf f.type = d.sz) (h : Opens P f.type d wf) : OpensFs P [f] off d wf := by
  intro H enc w base spare held n cs hl hf
  obtain ⟨x, hx⟩ := hf f (by simp)
  obtain ⟨y, hw, hk⟩ := h H enc w base spare held n _ x hx
  refine ⟨y, hw, fun W' hW => ?_⟩
  have := hk W' hW
  rw [ho, hs, List.take_of_length_le (by simp; omega)] at this
  exact this
theorem opens_cons {α β : Type} {f : Field} {fs : List Field} {off : Nat} {d : Kd α} {d' : Kd β} {wf : α → Prop} {wf' : β → Prop} (ho : f.offset = off) (hs : P.cellsOf f.type = d.sz) (h : Opens P f.type d wf) (h' : OpensFs P fs (off + d.sz) d' wf') :
    OpensFs P (f :: fs) off (Kd.pair d d') (fun y => wf y.1 ∧ wf' y.2) := by
  intro H enc w base spare held n cs hl hf
  have hl' : cs.length = off + (d.sz + d'.sz) := hl
  obtain ⟨x, hx⟩ := hf f (by simp)
  obtain ⟨y, hw, hk⟩ := h H enc w base spare held n _ x hx
  obtain ⟨y', hw', hk'⟩ := h' H enc w base spare held n cs (by omega) (fun g hg => hf g (by simp [hg]))
  refine ⟨(y, y'), ⟨hw, hw'⟩, fun W' hW => ⟨(cs.drop off).take d.sz, cs.drop (off + d.sz), ?_, ?_, hk' W' hW⟩⟩
  · rw [← List.drop_drop, List.take_append_drop]
  · have := hk W' hW
    rw [ho, hs] at this
    exact this
theorem opens_struct {α : Type} {fs : Array Field} {d : Kd α} {wf : α → Prop} (ht : P.underlying t = some (.struct fs)) (hs : P.cellsOf t = d.sz) (h : OpensFs P fs.toList 0 d wf) : Opens P t d wf := by
  intro H enc w base spare held fuel cs x hx
  obtain ⟨xs, n, _, _, hl, hlen, hf⟩ := DataW.trod_struct ht hx
  obtain ⟨y, hw, hk⟩ := h H enc w base spare held n cs (by omega) (fun f hf' => by
    obtain ⟨i, hi⟩ := List.getElem?_of_mem hf'
    rw [Array.getElem?_toList] at hi
    have hil : i < xs.length := by rw [hlen]; exact (Array.getElem?_eq_some_iff.1 hi).1
    exact ⟨xs[i], by rw [hf i f hi]; exact List.getElem?_eq_getElem hil⟩)
  exact ⟨y, hw, fun W' hW => by have := hk W' hW; rwa [List.drop_zero] at this⟩
end
/-- A slice that a row hands over, as the print's fact of it. -/
theorem opened_slice {P : Program} {t e : TypeId} {α : Type} {d : Kd α} {wf : List α → Prop} {H : Type} {enc : TypeId × Value → H} {w : World} {spare : Nat → Bool} {held : Bool} {r : Reach} {b0 : Nat} {v : Value} {dt : DataW H} {p : List MemPlace}
    (ht : P.underlying t = some (.slice e)) (h : Opens P t (Kd.slice e d) wf) (hv : Value.okWide P w r b0 t v) (hd : DataW.Trod enc P w 0 spare held t v dt p) :
    ∃ (A : Option Addr) (c : Nat) (l : List α), v = .slice A l.length c ∧ wf l ∧ l.length ≤ c ∧ ∀ W', Blocks w W' → Kd.C d W' A l.length l := by
  obtain ⟨A, n, c, rfl⟩ := okWide_slice ht hv
  obtain ⟨fuel, hf⟩ := hd
  obtain ⟨l, hw, hk⟩ := h H enc w 0 spare held fuel _ _ hf
  obtain ⟨A', c', he, hl, _⟩ := hk w (Blocks.refl w)
  simp [Value.cells] at he
  obtain ⟨rfl, rfl, rfl⟩ := he
  refine ⟨A, c, l, rfl, hw, hl, fun W' hW => ?_⟩
  obtain ⟨A', c', he, _, hc⟩ := hk W' hW
  simp [Value.cells] at he
  obtain ⟨rfl, rfl⟩ := he
  exact hc
theorem opened_V {α : Type} {d : Kd α} {w : World} {A : Option Addr} {c e base : Nat} {l : List α} (hl : l.length ≤ c) (h : ∀ W', Blocks w W' → Kd.C d W' A l.length l) : Kd.V d e w base (fun _ => True) (.slice A l.length c) l :=
  Kd.V_mk hl (fun W' hW => h W' (fun k hk => hW k trivial hk))
/-- A struct by value that a row hands over. -/
theorem opened_agg {P : Program} {t : TypeId} {fs : Array Field} {α : Type} {d : Kd α} {wf : α → Prop} {H : Type} {enc : TypeId × Value → H} {w : World} {spare : Nat → Bool} {held : Bool} {r : Reach} {b0 : Nat} {v : Value} {dt : DataW H} {p : List MemPlace}
    (ht : P.underlying t = some (.struct fs)) (h : Opens P t d wf) (hv : Value.okWide P w r b0 t v) (hd : DataW.Trod enc P w 0 spare held t v dt p) :
    ∃ (vs : Array Value) (y : α), v = .agg vs ∧ wf y ∧ ∀ W', Blocks w W' → d.K W' y vs.toList := by
  obtain ⟨cs, rfl, hsz⟩ := okWide_struct ht hv
  obtain ⟨fuel, hf⟩ := hd
  obtain ⟨y, hw, hk⟩ := h H enc w 0 spare held fuel _ _ hf
  exact ⟨cs, y, rfl, hw, hk⟩
theorem arr_of_list {α : Type} {a : Array α} {l : List α} (h : a.toList = l) : a = l.toArray := by subst h; simp
end Go.Proofs.Ytkajfadhlgmcjaa
