import Derived.Test.YteibeoipnjhicaaGreatEnc
import Derived.Deep.Slices
import Derived.Lib.SmallJoins
import Derived.ChangeOld
import Derived.WalkKit
import Derived.OpenShut
namespace Go.Proofs.YteibeoipnjhicaaGreat
open Go Go.RowKit Go.ChangeShapes Go.WideShapes Go.Joins
set_option linter.unusedVariables false
set_option linter.unusedSimpArgs false
abbrev NoM : Nat → Nat → Prop := fun _ _ => False
def q4w {α : Type} (P : Program) (t : TypeId) (en : α → List PV) (wf : α → Prop) : Prop :=
  ∀ (H : Type) (enc : TypeId × Value → H) (w : World) (base : Nat) (spare : Nat → Bool) (held : Bool) (fuel : Nat) (cs : List Value) (x : DataW H × List MemPlace), DataW.trod enc P w base spare held fuel t cs = some x →
    ∃ y, wf y ∧ ∀ σ L, CR w NoM σ L cs (en y)
section
variable {P : Program} {t e : TypeId}
theorem cr_one {w : World} {M σ L} {v : Value} {p : PV} (h : VR w M σ L v p) (ho : v.oneCell' = true) : CR w M σ L [v] [p] := by
  refine ⟨rfl, fun u hu => by simp at hu; subst hu; exact ho, fun i u q hu hq => ?_⟩
  cases i with
  | zero => simp at hu hq; subst hu; subst hq; exact h
  | succ i => simp at hu
theorem cr_app {w : World} {M σ L} {cs ds : List Value} {l k : List PV} (h : CR w M σ L cs l) (h' : CR w M σ L ds k) : CR w M σ L (cs ++ ds) (l ++ k) := by
  refine ⟨by simp [h.len, h'.len], fun v hv => (List.mem_append.1 hv).elim (h.one v) (h'.one v), fun i v p hv hp => ?_⟩
  by_cases hi : i < cs.length
  · rw [List.getElem?_append_left hi] at hv
    rw [List.getElem?_append_left (by rw [← h.len]; exact hi)] at hp
    exact h.rel i v p hv hp
  · rw [List.getElem?_append_right (by omega)] at hv
    rw [List.getElem?_append_right (by rw [← h.len]; omega), ← h.len] at hp
    exact h'.rel _ v p hv hp
theorem cr_nil {w : World} {M σ L} : CR w M σ L [] [] := ⟨rfl, fun v hv => (by cases hv), fun i v p hv => by simp at hv⟩
theorem q2t {k : IntKind} (ht : P.underlying t = some (.int k)) : q4w P t (fun n => [.int k n]) (fun n => k.min ≤ n ∧ n ≤ k.max) := by
  intro H enc w base spare held fuel cs x h
  obtain ⟨n, rfl, _, hw⟩ := DataW.trod_int ht h
  exact ⟨n, by simpa [Lit.wf] using hw, fun σ L => cr_one (.int k n) rfl⟩
theorem opensR_bool (ht : P.underlying t = some .bool) : q4w P t (fun b => [.bool b]) (fun _ => True) := by
  intro H enc w base spare held fuel cs x h
  obtain ⟨b, rfl, _⟩ := DataW.trod_bool ht h
  exact ⟨b, trivial, fun σ L => cr_one (.bool b) rfl⟩
theorem q4z {α β : Type} {en : α → List PV} {wf : α → Prop} {f : β → α} (g : α → β) (hg : ∀ x, f (g x) = x) (h : q4w P t en wf) : q4w P t (fun y => en (f y)) (fun y => wf (f y)) := by
  intro H enc w base spare held fuel cs x hx
  obtain ⟨y, hw, hk⟩ := h H enc w base spare held fuel cs x hx
  exact ⟨g y, by show wf (f (g y)); rw [hg]; exact hw, fun σ L => by show CR w NoM σ L cs (en (f (g y))); rw [hg]; exact hk σ L⟩
theorem q4r {α : Type} {en en' : α → List PV} {wf wf' : α → Prop} (h : q4w P t en wf) (he : ∀ y, en y = en' y) (hw : ∀ y, wf y → wf' y) : q4w P t en' wf' := by
  intro H enc w base spare held fuel cs x hx
  obtain ⟨y, h1, h2⟩ := h H enc w base spare held fuel cs x hx
  exact ⟨y, hw y h1, fun σ L => by rw [← he]; exact h2 σ L⟩
theorem flat_get {α : Type} {f : α → List PV} {sz : Nat} (hsz : ∀ y, (f y).length = sz) (h0 : 0 < sz) : ∀ (l : List α) (q : Nat) (p : PV), (l.map f).flatten[q]? = some p → ∃ y, l[q / sz]? = some y ∧ (f y)[q % sz]? = some p := by
  intro l
  induction l with
  | nil => intro q p h; simp at h
  | cons a l ih =>
    intro q p h
    rw [List.map_cons, List.flatten_cons] at h
    by_cases hq : q < sz
    · rw [List.getElem?_append_left (by rw [hsz]; exact hq)] at h
      exact ⟨a, by rw [Nat.div_eq_of_lt hq]; rfl, by rw [Nat.mod_eq_of_lt hq]; exact h⟩
    · rw [List.getElem?_append_right (by rw [hsz]; omega), hsz] at h
      obtain ⟨y, h1, h2⟩ := ih _ _ h
      have e1 : q / sz = (q - sz) / sz + 1 := by rw [Nat.div_eq_sub_div h0 (by omega)]
      have e2 : q % sz = (q - sz) % sz := by rw [Nat.mod_eq_sub_mod (by omega)]
      exact ⟨y, by rw [e1]; exact h1, by rw [e2]; exact h2⟩
theorem addr_none {w : World} {a : Addr} {v : Value} (h : w.cell? a = some v) : a.spot = none := by
  unfold World.cell? at h
  split at h
  · cases hs : a.spot with
    | none => rfl
    | some n => rw [hs] at h; simp at h
  · cases h
theorem q3w {α : Type} [Inhabited α] {en : α → List PV} {wf : α → Prop} {sz : Nat} (ht : P.underlying t = some (.slice e)) (hsz : ∀ y, (en y).length = sz) (hs : P.cellsOf e = sz) (h0 : 0 < sz) (h : q4w P e en wf) :
    q4w P t (fun l : List α => [.sl (l.map en)]) (fun l => (∀ y ∈ l, wf y) ∧ l.length ≤ maxLen) := by
  intro H enc w base spare held fuel cs x hx
  rcases Go.Deep.open_slice ht hx with ⟨rfl, _⟩ | ⟨a, len, cap, m, n, D, Pl, rfl, _, hl, hm, hmm, _, he⟩
  · exact ⟨[], ⟨by simp, by simp⟩, fun σ L => cr_one (.sl0 none 0) rfl⟩
  · have hle : len ≤ m := by rw [hmm]; split <;> omega
    have each : ∀ i, i < len → ∃ y, wf y ∧ ∃ cs', (∀ j u, cs'[j]? = some u → w.cell? (a.add (i * sz + j)) = some u) ∧ ∀ σ L, CR w NoM σ L cs' (en y) := by
      intro i hi
      obtain ⟨cs', h1, h2⟩ := he i (by omega)
      obtain ⟨y, hw, hk⟩ := h H enc w base spare held n cs' _ h2
      rw [hs] at h1
      obtain ⟨g1, g2, g3⟩ := World.cells?_some h1
      refine ⟨y, hw, cs', fun j u hj => ?_, hk⟩
      have hjl : j < sz := by rw [← g2]; exact (List.getElem?_eq_some_iff.1 hj).1
      have := g3 j hjl
      rw [Go.Deep.add_add] at this
      rw [this]
      exact hj
    obtain ⟨f, hf⟩ := Go.Deep.choose_lt each
    refine ⟨(List.range len).map f, ⟨?_, by simp; unfold maxLen at hm ⊢; omega⟩, fun σ L => cr_one ?_ rfl⟩
    · intro y hy
      obtain ⟨i, hi, rfl⟩ := List.mem_map.1 hy
      exact (hf i (by simpa using hi)).1
    · rcases Nat.eq_zero_or_pos len with rfl | hpos
      · exact .sl0 _ _
      · obtain ⟨b, o, sp⟩ := a
        have hspot : sp = none := by
          obtain ⟨_, cs', g1, g2⟩ := hf 0 hpos
          have hl' := (g2 (fun _ => ⟨0, 0, 0, 0, 0⟩) (fun _ => True)).len
          rw [hsz] at hl'
          have h5 := g1 0 _ (List.getElem?_eq_getElem (by omega))
          rw [Nat.zero_mul, Nat.zero_add] at h5
          have h6 := addr_none h5
          simpa [Addr.add] using h6
        subst hspot
        have hlen : (List.map en ((List.range len).map f)).length = len := by simp
        have key : ∀ q p, (List.map en ((List.range len).map f)).flatten[q]? = some p → ∃ v, w.cell? ⟨b, o + q, none⟩ = some v ∧ v.oneCell' = true ∧ VR w NoM σ L v p := by
          intro q p hq
          obtain ⟨y, g1, g2⟩ := flat_get hsz h0 _ q p hq
          rw [List.getElem?_map] at g1
          obtain ⟨i, hi, rfl⟩ := Option.map_eq_some_iff.1 g1
          have hil : q / sz < len := by have := (List.getElem?_eq_some_iff.1 hi).1; simpa using this
          have : i = q / sz := by have := (List.getElem?_eq_some_iff.1 hi).2; simp at this; omega
          subst this
          obtain ⟨_, cs', k1, k2⟩ := hf _ hil
          have kc := k2 σ L
          have hlt : q % sz < cs'.length := by rw [kc.len]; exact (List.getElem?_eq_some_iff.1 g2).1
          have hu := List.getElem?_eq_getElem hlt
          refine ⟨cs'[q % sz], ?_, kc.one _ (List.getElem_mem _), kc.rel _ _ _ hu g2⟩
          have := k1 _ _ hu
          have e1 : q / sz * sz + q % sz = q := Nat.div_add_mod' q sz
          rw [e1] at this
          have e2 : (⟨b, o, none⟩ : Addr).add q = ⟨b, o + q, none⟩ := by unfold Addr.add; split <;> simp_all
          rw [e2] at this
          exact this
        have := VR.sl (w := w) (M := NoM) (σ := σ) (L := L) b o sz cap (List.map en ((List.range len).map f)) (by rw [hlen]; exact hl) (fun e he => by obtain ⟨y, _, rfl⟩ := List.mem_map.1 he; exact hsz y)
          (fun q => (w.cell? ⟨b, o + q, none⟩).getD (.bool false)) (fun q p hq => by obtain ⟨v, k1, k2, k3⟩ := key q p hq; rw [k1]; exact ⟨rfl, fun h => h, k2⟩) (fun q p hq => by obtain ⟨v, k1, k2, k3⟩ := key q p hq; rw [k1]; exact k3)
        rw [hlen] at this
        exact this
/-- A struct's fields from an offset on. -/
def OpensRs {α : Type} (P : Program) (fs : List Field) (off sz : Nat) (en : α → List PV) (wf : α → Prop) : Prop :=
  ∀ (H : Type) (enc : TypeId × Value → H) (w : World) (base : Nat) (spare : Nat → Bool) (held : Bool) (n : Nat) (cs : List Value), cs.length = off + sz →
    (∀ f ∈ fs, ∃ x : DataW H × List MemPlace, DataW.trod enc P w base spare held n f.type ((cs.drop f.offset).take (P.cellsOf f.type)) = some x) →
    ∃ y, wf y ∧ ∀ σ L, CR w NoM σ L (cs.drop off) (en y)
theorem q4y {α : Type} {f : Field} {off sz : Nat} {en : α → List PV} {wf : α → Prop} (ho : f.offset = off) (hs : P.cellsOf f.type = sz) (h : q4w P f.type en wf) : OpensRs P [f] off sz en wf := by
  intro H enc w base spare held n cs hl hf
  obtain ⟨x, hx⟩ := hf f (by simp)
  obtain ⟨y, hw, hk⟩ := h H enc w base spare held n _ x hx
  refine ⟨y, hw, fun σ L => ?_⟩
  have := hk σ L
  rw [ho, hs, List.take_of_length_le (by simp; omega)] at this
  exact this
theorem q2f {α β : Type} {f : Field} {fs : List Field} {off s sz : Nat} {en : α → List PV} {en' : β → List PV} {wf : α → Prop} {wf' : β → Prop} (ho : f.offset = off) (hs : P.cellsOf f.type = s) (h : q4w P f.type en wf) (h' : OpensRs P fs (off + s) sz en' wf') :
    OpensRs P (f :: fs) off (s + sz) (fun y : α × β => en y.1 ++ en' y.2) (fun y => wf y.1 ∧ wf' y.2) := by
  intro H enc w base spare held n cs hl hf
  obtain ⟨x, hx⟩ := hf f (by simp)
  obtain ⟨y, hw, hk⟩ := h H enc w base spare held n _ x hx
  obtain ⟨y', hw', hk'⟩ := h' H enc w base spare held n cs (by omega) (fun g hg => hf g (by simp [hg]))
  refine ⟨(y, y'), ⟨hw, hw'⟩, fun σ L => ?_⟩
  have h1 := hk σ L
  rw [ho, hs] at h1
  have h2 := cr_app h1 (hk' σ L)
  rwa [← List.drop_drop, List.take_append_drop] at h2
theorem q4f {α : Type} {fs : Array Field} {sz : Nat} {en : α → List PV} {wf : α → Prop} (ht : P.underlying t = some (.struct fs)) (hs : P.cellsOf t = sz) (h : OpensRs P fs.toList 0 sz en wf) : q4w P t en wf := by
  intro H enc w base spare held fuel cs x hx
  obtain ⟨xs, n, _, _, hl, hlen, hf⟩ := DataW.trod_struct ht hx
  obtain ⟨y, hw, hk⟩ := h H enc w base spare held n cs (by omega) (fun f hf' => by
    obtain ⟨i, hi⟩ := List.getElem?_of_mem hf'
    rw [Array.getElem?_toList] at hi
    have hil : i < xs.length := by rw [hlen]; exact (Array.getElem?_eq_some_iff.1 hi).1
    exact ⟨xs[i], by rw [hf i f hi]; exact List.getElem?_eq_getElem hil⟩)
  exact ⟨y, hw, fun σ L => by have := hk σ L; rwa [List.drop_zero] at this⟩
theorem opensR_array {α : Type} [Inhabited α] {n : Nat} {en : α → List PV} {wf : α → Prop} (ht : P.underlying t = some (.array n e)) (hc : P.cellsOf t = n) (h1 : P.cellsOf e = 1) (h : q4w P e en wf) : q4w P t (fun f : Nat → α => arr n (fun i => en (f i))) (fun f => ∀ i, i < n → wf (f i)) := by
  intro H enc w base spare held fuel cs x hx
  obtain ⟨xs, m, _, _, hl, hlen, hf⟩ := DataW.trod_array ht hx
  rw [hc] at hl
  have each : ∀ i, i < n → ∃ y, wf y ∧ ∀ σ L, CR w NoM σ L ((cs.drop i).take 1) (en y) := by
    intro i hi
    have hil : i < xs.length := by omega
    have := hf i hi
    rw [List.getElem?_eq_getElem hil, h1, Nat.mul_one] at this
    exact h H enc w base spare held m _ _ this
  obtain ⟨f, hf'⟩ := Go.Deep.choose_lt each
  refine ⟨f, fun i hi => (hf' i hi).1, fun σ L => ?_⟩
  have key : ∀ k, k ≤ n → CR w NoM σ L (cs.take k) (arr k (fun i => en (f i))) := by
    intro k
    induction k with
    | zero => intro _; exact cr_nil
    | succ k ih =>
      intro hk
      have h2 := cr_app (ih (by omega)) ((hf' k (by omega)).2 σ L)
      have e1 : arr (k + 1) (fun i => en (f i)) = arr k (fun i => en (f i)) ++ en (f k) := by simp [arr, List.range_succ]
      have e2 : cs.take (k + 1) = cs.take k ++ (cs.drop k).take 1 := by rw [List.take_add]
      rw [e1, e2]; exact h2
  have := key n (Nat.le_refl _)
  rwa [List.take_of_length_le (by omega)] at this
theorem vr_aggc {w : World} {M σ L} {cs : Array Value} {l : List PV} (h : CR w M σ L (Value.agg cs).cells.toList l) : VR w M σ L (.agg cs) (.agg l) := by
  have := VR.agg (w := w) (M := M) (σ := σ) (L := L) cs.toList l h.len h.one h.rel
  simpa using this
/-- An argument that a row hands over. -/
theorem q4a {fs : Array Field} {α : Type} {en : α → List PV} {wf : α → Prop} {H : Type} {enc : TypeId × Value → H} {w : World} {spare : Nat → Bool} {held : Bool} {r : Reach} {b0 : Nat} {v : Value} {dt : DataW H} {p : List MemPlace}
    (ht : P.underlying t = some (.struct fs)) (h : q4w P t en wf) (hv : Value.okWide P w r b0 t v) (hd : DataW.Trod enc P w 0 spare held t v dt p) : ∃ y : α, wf y ∧ ∀ σ L, VR w NoM σ L v (.agg (en y)) := by
  obtain ⟨cs, rfl, hsz⟩ := okWide_struct ht hv
  obtain ⟨fuel, hf⟩ := hd
  obtain ⟨y, hw, hk⟩ := h H enc w 0 spare held fuel _ _ hf
  exact ⟨y, hw, fun σ L => vr_aggc (hk σ L)⟩
theorem vl_nil {w : World} {M σ L} : VL w M σ L [] [] := ⟨rfl, fun i v p hv => by simp at hv⟩
theorem q4n {w : World} {M σ L} {v : Value} {p : PV} {vs : List Value} {ps : List PV} (h : VR w M σ L v p) (k : VL w M σ L vs ps) : VL w M σ L (v :: vs) (p :: ps) := by
  refine ⟨by simp [k.1], fun i u q hu hq => ?_⟩
  cases i with
  | zero => simp at hu hq; subst hu; subst hq; exact h
  | succ i => exact k.2 i u q (by simpa using hu) (by simpa using hq)
end
end Go.Proofs.YteibeoipnjhicaaGreat
