import Derived.Test.YteibeoipnjhicaaGreatEnc
import Derived.Deep.Slices
import Derived.Lib.SmallJoins
import Derived.ChangeOld
import Derived.WalkKit
import Derived.OpenShut
section
namespace Go.Proofs.YteibeoipnjhicaaGreat
open Go Go.RowKit Go.ChangeShapes Go.WideShapes Go.Joins
set_option linter.unusedVariables false
set_option linter.unusedSimpArgs false
abbrev NoM : Nat → Nat → Prop := fun _ _ => False
def q4k {α : Type} (P : Program) (t : TypeId) (en : α → List PV) (wf : α → Prop) : Prop :=
  ∀ (H : Type) (enc : TypeId × Value → H) (w : World) (base : Nat) (spare : Nat → Bool) (held : Bool) (fuel : Nat) (cs : List Value) (x : DataW H × List MemPlace), DataW.trod enc P w base spare held fuel t cs = some x →
    ∃ y, wf y ∧ ∀ σ L, CR w NoM σ L cs (en y)
section
variable {P : Program} {t e : TypeId}
theorem cr_one {w : World} {M σ L} {v : Value} {p : PV} (h : VR w M σ L v p) (ho : v.oneCell' = true) : CR w M σ L [v] [p] := by
  refine ⟨rfl, fun u hu => by simp at hu; subst hu; exact ho, fun i u q hu hq => ?_⟩
  cases i with
  | zero => simp at hu hq; subst hu; subst hq; exact h
  | succ i => simp at hu
theorem cr_app {w : World} {M σ L} {cs ds : List Value} {l k : List PV} (h : CR w M σ L cs l) (h' : CR w M σ L ds k) : CR w M σ L (cs ++ ds) (l ++ k) := by
  refine ⟨by simp [h.len, h'.len], fun v hv => (List.mem_append.1 hv).elim (h.one v) (h'.one v), fun i v p hv hp => ?_⟩
  by_cases hi : i < cs.length
  · rw [List.getElem?_append_left hi] at hv
    rw [List.getElem?_append_left (by rw [← h.len]; exact hi)] at hp
    exact h.rel i v p hv hp
  · rw [List.getElem?_append_right (by omega)] at hv
    rw [List.getElem?_append_right (by rw [← h.len]; omega), ← h.len] at hp
    exact h'.rel _ v p hv hp
theorem cr_nil {w : World} {M σ L} : CR w M σ L [] [] := ⟨rfl, fun v hv => (by cases hv), fun i v p hv => by simp at hv⟩
theorem q2u {k : IntKind} (ht : P.underlying t = some (.int k)) : q4k P t (fun n => [.int k n]) (fun n => k.min ≤ n ∧ n ≤ k.max) := by
  intro H enc w base spare held fuel cs x h
  obtain ⟨n, rfl, _, hw⟩ := DataW.trod_int ht h
  exact ⟨n, by simpa [Lit.wf] using hw, fun σ L => cr_one (.int k n) rfl⟩
theorem q9i (ht : P.underlying t = some .bool) : q4k P t (fun b => [.bool b]) (fun _ => True) := by
  intro H enc w base spare held fuel cs x h
  obtain ⟨b, rfl, _⟩ := DataW.trod_bool ht h
  exact ⟨b, trivial, fun σ L => cr_one (.bool b) rfl⟩
theorem q4s {α β : Type} {en : α → List PV} {wf : α → Prop} {f : β → α} (g : α → β) (hg : ∀ x, f (g x) = x) (h : q4k P t en wf) : q4k P t (fun y => en (f y)) (fun y => wf (f y)) := by
  intro H enc w base spare held fuel cs x hx
  obtain ⟨y, hw, hk⟩ := h H enc w base spare held fuel cs x hx
  exact ⟨g y, by show wf (f (g y)); rw [hg]; exact hw, fun σ L => by show CR w NoM σ L cs (en (f (g y))); rw [hg]; exact hk σ L⟩
theorem q4h {α : Type} {en en' : α → List PV} {wf wf' : α → Prop} (h : q4k P t en wf) (he : ∀ y, en y = en' y) (hw : ∀ y, wf y → wf' y) : q4k P t en' wf' := by
  intro H enc w base spare held fuel cs x hx
  obtain ⟨y, h1, h2⟩ := h H enc w base spare held fuel cs x hx
  exact ⟨y, hw y h1, fun σ L => by rw [← he]; exact h2 σ L⟩
theorem flat_get {α : Type} {f : α → List PV} {sz : Nat} (hsz : ∀ y, (f y).length = sz) (h0 : 0 < sz) : ∀ (l : List α) (q : Nat) (p : PV), (l.map f).flatten[q]? = some p → ∃ y, l[q / sz]? = some y ∧ (f y)[q % sz]? = some p := by
  intro l
  induction l with
  | nil => intro q p h; simp at h
  | cons a l ih =>
    intro q p h
    rw [List.map_cons, List.flatten_cons] at h
    by_cases hq : q < sz
    · rw [List.getElem?_append_left (by rw [hsz]; exact hq)] at h
      exact ⟨a, by rw [Nat.div_eq_of_lt hq]; rfl, by rw [Nat.mod_eq_of_lt hq]; exact h⟩
    · rw [List.getElem?_append_right (by rw [hsz]; omega), hsz] at h
      obtain ⟨y, h1, h2⟩ := ih _ _ h
      have e1 : q / sz = (q - sz) / sz + 1 := by rw [Nat.div_eq_sub_div h0 (by omega)]
      have e2 : q % sz = (q - sz) % sz := by rw [Nat.mod_eq_sub_mod (by omega)]
      exact ⟨y, by rw [e1]; exact h1, by rw [e2]; exact h2⟩
theorem addr_none {w : World} {a : Addr} {v : Value} (h : w.cell? a = some v) : a.spot = none := by
  unfold World.cell? at h
  split at h
  · cases hs : a.spot with
    | none => rfl
    | some n => rw [hs] at h; simp at h
  · cases h
theorem q3x {α : Type} [Inhabited α] {en : α → List PV} {wf : α → Prop} {sz : Nat} (ht : P.underlying t = some (.slice e)) (hsz : ∀ y, (en y).length = sz) (hs : P.cellsOf e = sz) (h0 : 0 < sz) (h : q4k P e en wf) :
    q4k P t (fun l : List α => [.sl (l.map en)]) (fun l => (∀ y ∈ l, wf y) ∧ l.length ≤ maxLen) := by
  intro H enc w base spare held fuel cs x hx
  rcases Go.Deep.open_slice ht hx with ⟨rfl, _⟩ | ⟨a, len, cap, m, n, D, Pl, rfl, _, hl, hm, hmm, _, he⟩
  · exact ⟨[], ⟨by simp, by simp⟩, fun σ L => cr_one (.sl0 none 0) rfl⟩
  · have hle : len ≤ m := by rw [hmm]; split <;> omega
    have each : ∀ i, i < len → ∃ y, wf y ∧ ∃ cs', (∀ j u, cs'[j]? = some u → w.cell? (a.add (i * sz + j)) = some u) ∧ ∀ σ L, CR w NoM σ L cs' (en y) := by
      intro i hi
      obtain ⟨cs', h1, h2⟩ := he i (by omega)
      obtain ⟨y, hw, hk⟩ := h H enc w base spare held n cs' _ h2
      rw [hs] at h1
      obtain ⟨g1, g2, g3⟩ := World.cells?_some h1
      refine ⟨y, hw, cs', fun j u hj => ?_, hk⟩
      have hjl : j < sz := by rw [← g2]; exact (List.getElem?_eq_some_iff.1 hj).1
      have := g3 j hjl
      rw [Go.Deep.add_add] at this
      rw [this]
      exact hj
    obtain ⟨f, hf⟩ := Go.Deep.choose_lt each
    refine ⟨(List.range len).map f, ⟨?_, by simp; unfold maxLen at hm ⊢; omega⟩, fun σ L => cr_one ?_ rfl⟩
    · intro y hy
      obtain ⟨i, hi, rfl⟩ := List.mem_map.1 hy
      exact (hf i (by simpa using hi)).1
    · rcases Nat.eq_zero_or_pos len with rfl | hpos
      · exact .sl0 _ _
      · obtain ⟨b, o, sp⟩ := a
        have hspot : sp = none := by
          obtain ⟨_, cs', g1, g2⟩ := hf 0 hpos
          have hl' := (g2 (fun _ => ⟨0, 0, 0, 0, 0⟩) (fun _ => True)).len
          rw [hsz] at hl'
          have h5 := g1 0 _ (List.getElem?_eq_getElem (by omega))
          rw [Nat.zero_mul, Nat.zero_add] at h5
          have h6 := addr_none h5
          simpa [Addr.add] using h6
        subst hspot
        have hlen : (List.map en ((List.range len).map f)).length = len := by simp
        have key : ∀ q p, (List.map en ((List.range len).map f)).flatten[q]? = some p → ∃ v, w.cell? ⟨b, o + q, none⟩ = some v ∧ v.oneCell' = true ∧ VR w NoM σ L v p := by
          intro q p hq
          obtain ⟨y, g1, g2⟩ := flat_get hsz h0 _ q p hq
          rw [List.getElem?_map] at g1
          obtain ⟨i, hi, rfl⟩ := Option.map_eq_some_iff.1 g1
          have hil : q / sz < len := by have := (List.getElem?_eq_some_iff.1 hi).1; simpa using this
          have : i = q / sz := by have := (List.getElem?_eq_some_iff.1 hi).2; simp at this; omega
          subst this
          obtain ⟨_, cs', k1, k2⟩ := hf _ hil
          have kc := k2 σ L
          have hlt : q % sz < cs'.length := by rw [kc.len]; exact (List.getElem?_eq_some_iff.1 g2).1
          have hu := List.getElem?_eq_getElem hlt
          refine ⟨cs'[q % sz], ?_, kc.one _ (List.getElem_mem _), kc.rel _ _ _ hu g2⟩
          have := k1 _ _ hu
          have e1 : q / sz * sz + q % sz = q := Nat.div_add_mod' q sz
          rw [e1] at this
          have e2 : (⟨b, o, none⟩ : Addr).add q = ⟨b, o + q, none⟩ := by unfold Addr.add; split <;> simp_all
          rw [e2] at this
          exact this
        have := VR.sl (w := w) (M := NoM) (σ := σ) (L := L) b o sz cap (List.map en ((List.range len).map f)) (by rw [hlen]; exact hl) (fun e he => by obtain ⟨y, _, rfl⟩ := List.mem_map.1 he; exact hsz y)
          (fun q => (w.cell? ⟨b, o + q, none⟩).getD (.bool false)) (fun q p hq => by obtain ⟨v, k1, k2, k3⟩ := key q p hq; rw [k1]; exact ⟨rfl, fun h => h, k2⟩) (fun q p hq => by obtain ⟨v, k1, k2, k3⟩ := key q p hq; rw [k1]; exact k3)
        rw [hlen] at this
        exact this
/-- A struct's fields from an offset on. -/
def OpensRs {α : Type} (P : Program) (fs : List Field) (off sz : Nat) (en : α → List PV) (wf : α → Prop) : Prop :=
  ∀ (H : Type) (enc : TypeId × Value → H) (w : World) (base : Nat) (spare : Nat → Bool) (held : Bool) (n : Nat) (cs : List Value), cs.length = off + sz →
    (∀ f ∈ fs, ∃ x : DataW H × List MemPlace, DataW.trod enc P w base spare held n f.type ((cs.drop f.offset).take (P.cellsOf f.type)) = some x) →
    ∃ y, wf y ∧ ∀ σ L, CR w NoM σ L (cs.drop off) (en y)
theorem q4r {α : Type} {f : Field} {off sz : Nat} {en : α → List PV} {wf : α → Prop} (ho : f.offset = off) (hs : P.cellsOf f.type = sz) (h : q4k P f.type en wf) : OpensRs P [f] off sz en wf := by
  intro H enc w base spare held n cs hl hf
  obtain ⟨x, hx⟩ := hf f (by simp)
  obtain ⟨y, hw, hk⟩ := h H enc w base spare held n _ x hx
  refine ⟨y, hw, fun σ L => ?_⟩
  have := hk σ L
  rw [ho, hs, List.take_of_length_le (by simp; omega)] at this
  exact this
theorem q2o {α β : Type} {f : Field} {fs : List Field} {off s sz : Nat} {en : α → List PV} {en' : β → List PV} {wf : α → Prop} {wf' : β → Prop} (ho : f.offset = off) (hs : P.cellsOf f.type = s) (h : q4k P f.type en wf) (h' : OpensRs P fs (off + s) sz en' wf') :
    OpensRs P (f :: fs) off (s + sz) (fun y : α × β => en y.1 ++ en' y.2) (fun y => wf y.1 ∧ wf' y.2) := by
  intro H enc w base spare held n cs hl hf
  obtain ⟨x, hx⟩ := hf f (by simp)
  obtain ⟨y, hw, hk⟩ := h H enc w base spare held n _ x hx
  obtain ⟨y', hw', hk'⟩ := h' H enc w base spare held n cs (by omega) (fun g hg => hf g (by simp [hg]))
  refine ⟨(y, y'), ⟨hw, hw'⟩, fun σ L => ?_⟩
  have h1 := hk σ L
  rw [ho, hs] at h1
  have h2 := cr_app h1 (hk' σ L)
  rwa [← List.drop_drop, List.take_append_drop] at h2
theorem q4d {α : Type} {fs : Array Field} {sz : Nat} {en : α → List PV} {wf : α → Prop} (ht : P.underlying t = some (.struct fs)) (hs : P.cellsOf t = sz) (h : OpensRs P fs.toList 0 sz en wf) : q4k P t en wf := by
  intro H enc w base spare held fuel cs x hx
  obtain ⟨xs, n, _, _, hl, hlen, hf⟩ := DataW.trod_struct ht hx
  obtain ⟨y, hw, hk⟩ := h H enc w base spare held n cs (by omega) (fun f hf' => by
    obtain ⟨i, hi⟩ := List.getElem?_of_mem hf'
    rw [Array.getElem?_toList] at hi
    have hil : i < xs.length := by rw [hlen]; exact (Array.getElem?_eq_some_iff.1 hi).1
    exact ⟨xs[i], by rw [hf i f hi]; exact List.getElem?_eq_getElem hil⟩)
  exact ⟨y, hw, fun σ L => by have := hk σ L; rwa [List.drop_zero] at this⟩
theorem q7w {α : Type} [Inhabited α] {n : Nat} {en : α → List PV} {wf : α → Prop} (ht : P.underlying t = some (.array n e)) (hc : P.cellsOf t = n) (h1 : P.cellsOf e = 1) (h : q4k P e en wf) : q4k P t (fun f : Nat → α => arr n (fun i => en (f i))) (fun f => ∀ i, i < n → wf (f i)) := by
  intro H enc w base spare held fuel cs x hx
  obtain ⟨xs, m, _, _, hl, hlen, hf⟩ := DataW.trod_array ht hx
  rw [hc] at hl
  have each : ∀ i, i < n → ∃ y, wf y ∧ ∀ σ L, CR w NoM σ L ((cs.drop i).take 1) (en y) := by
    intro i hi
    have hil : i < xs.length := by omega
    have := hf i hi
    rw [List.getElem?_eq_getElem hil, h1, Nat.mul_one] at this
    exact h H enc w base spare held m _ _ this
  obtain ⟨f, hf'⟩ := Go.Deep.choose_lt each
  refine ⟨f, fun i hi => (hf' i hi).1, fun σ L => ?_⟩
  have key : ∀ k, k ≤ n → CR w NoM σ L (cs.take k) (arr k (fun i => en (f i))) := by
    intro k
    induction k with
    | zero => intro _; exact cr_nil
    | succ k ih =>
      intro hk
      have h2 := cr_app (ih (by omega)) ((hf' k (by omega)).2 σ L)
      have e1 : arr (k + 1) (fun i => en (f i)) = arr k (fun i => en (f i)) ++ en (f k) := by simp [arr, List.range_succ]
      have e2 : cs.take (k + 1) = cs.take k ++ (cs.drop k).take 1 := by rw [List.take_add]
      rw [e1, e2]; exact h2
  have := key n (Nat.le_refl _)
  rwa [List.take_of_length_le (by omega)] at this
/-- A value of a type of one cell. -/
theorem vr_cell {w : World} {M σ L} {v : Value} {p : PV} (hv : v.cells = #[v]) (h : CR w M σ L v.cells.toList [p]) : VR w M σ L v p := by
  rw [hv] at h
  exact h.rel 0 v p rfl rfl
theorem vr_aggc {w : World} {M σ L} {cs : Array Value} {l : List PV} (h : CR w M σ L (Value.agg cs).cells.toList l) : VR w M σ L (.agg cs) (.agg l) := by
  have := VR.agg (w := w) (M := M) (σ := σ) (L := L) cs.toList l h.len h.one h.rel
  simpa using this
/-- An argument that a row hands over. -/
theorem q6o {fs : Array Field} {α : Type} {en : α → List PV} {wf : α → Prop} {H : Type} {enc : TypeId × Value → H} {w : World} {spare : Nat → Bool} {held : Bool} {r : Reach} {b0 : Nat} {v : Value} {dt : DataW H} {p : List MemPlace}
    (ht : P.underlying t = some (.struct fs)) (h : q4k P t en wf) (hv : Value.okWide P w r b0 t v) (hd : DataW.Trod enc P w 0 spare held t v dt p) : ∃ y : α, wf y ∧ ∀ σ L, VR w NoM σ L v (.agg (en y)) := by
  obtain ⟨cs, rfl, hsz⟩ := okWide_struct ht hv
  obtain ⟨fuel, hf⟩ := hd
  obtain ⟨y, hw, hk⟩ := h H enc w 0 spare held fuel _ _ hf
  exact ⟨y, hw, fun σ L => vr_aggc (hk σ L)⟩
theorem q7l {α : Type} {en : α → PV} {wf : α → Prop} {H : Type} {enc : TypeId × Value → H} {w : World} {spare : Nat → Bool} {held : Bool} {r : Reach} {b0 : Nat} {v : Value} {dt : DataW H} {p : List MemPlace}
    (ht : P.underlying t = some (.slice e)) (h : q4k P t (fun y => [en y]) wf) (hv : Value.okWide P w r b0 t v) (hd : DataW.Trod enc P w 0 spare held t v dt p) : ∃ y : α, wf y ∧ ∀ σ L, VR w NoM σ L v (en y) := by
  obtain ⟨a, n, c, rfl⟩ := okWide_slice ht hv
  obtain ⟨fuel, hf⟩ := hd
  obtain ⟨y, hw, hk⟩ := h H enc w 0 spare held fuel _ _ hf
  exact ⟨y, hw, fun σ L => vr_cell rfl (hk σ L)⟩
theorem vl_nil {w : World} {M σ L} : VL w M σ L [] [] := ⟨rfl, fun i v p hv => by simp at hv⟩
theorem q5i {w : World} {M σ L} {v : Value} {p : PV} {vs : List Value} {ps : List PV} (h : VR w M σ L v p) (k : VL w M σ L vs ps) : VL w M σ L (v :: vs) (p :: ps) := by
  refine ⟨by simp [k.1], fun i u q hu hq => ?_⟩
  cases i with
  | zero => simp at hu hq; subst hu; subst hq; exact h
  | succ i => exact k.2 i u q (by simpa using hu) (by simpa using hq)
end
end Go.Proofs.YteibeoipnjhicaaGreat
end

section
namespace Go.Proofs.YteibeoipnjhicaaGreat
open Go Go.RowKit
set_option linter.unusedVariables false
set_option linter.unusedSimpArgs false
def U (n : Int) : Prop := IntKind.u64.min ≤ n ∧ n ≤ IntKind.u64.max
def I (n : Int) : Prop := IntKind.i64.min ≤ n ∧ n ≤ IntKind.i64.max
theorem U.of {n : Int} (h : (Lit.int .u64 n).wf = true) : U n := by simp only [Lit.wf, Bool.and_eq_true, decide_eq_true_eq] at h; exact h
theorem I.of {n : Int} (h : (Lit.int .i64 n).wf = true) : I n := by simp only [Lit.wf, Bool.and_eq_true, decide_eq_true_eq] at h; exact h
def Pr.wf (x : Pr) : Prop := (U x.cat) ∧ (I x.lev)
theorem Pr.opens : q4k Tryz.prog 84 Pr.enc Pr.wf := q4h (q4s (f := fun x : Pr => (x.cat, x.lev)) (fun y => ⟨y.1, y.2⟩) (fun _ => rfl) (q4d Tryz.underlying84 (by kernel_rfl) (q2o (s := 1) rfl (by kernel_rfl) (q2u (k := .u64) Tryz.underlying22) (q4r (sz := 1) rfl (by kernel_rfl) (q2u (k := .i64) Tryz.underlying3))))) (fun y => by kernel_rfl) (fun y h => h)
def Mp.wf (x : Mp) : Prop := (I x.va) ∧ (I x.n) ∧ (U x.cont) ∧ (U x.seg) ∧ (I x.off) ∧ True
theorem Mp.opens : q4k Tryz.prog 118 Mp.enc Mp.wf := q4h (q4s (f := fun x : Mp => (x.va, x.n, x.cont, x.seg, x.off, x.write)) (fun y => ⟨y.1, y.2.1, y.2.2.1, y.2.2.2.1, y.2.2.2.2.1, y.2.2.2.2.2⟩) (fun _ => rfl) (q4d Tryz.underlying118 (by kernel_rfl) (q2o (s := 1) rfl (by kernel_rfl) (q2u (k := .i64) Tryz.underlying3) (q2o (s := 1) rfl (by kernel_rfl) (q2u (k := .i64) Tryz.underlying3) (q2o (s := 1) rfl (by kernel_rfl) (q2u (k := .u64) Tryz.underlying22) (q2o (s := 1) rfl (by kernel_rfl) (q2u (k := .u64) Tryz.underlying22) (q2o (s := 1) rfl (by kernel_rfl) (q2u (k := .i64) Tryz.underlying3) (q4r (sz := 1) rfl (by kernel_rfl) (q9i Tryz.underlying4))))))))) (fun y => by kernel_rfl) (fun y h => h)
def Rf.wf (x : Rf) : Prop := (U x.cont) ∧ (U x.id)
theorem Rf.opens : q4k Tryz.prog 47 Rf.enc Rf.wf := q4h (q4s (f := fun x : Rf => (x.cont, x.id)) (fun y => ⟨y.1, y.2⟩) (fun _ => rfl) (q4d Tryz.underlying47 (by kernel_rfl) (q2o (s := 1) rfl (by kernel_rfl) (q2u (k := .u64) Tryz.underlying22) (q4r (sz := 1) rfl (by kernel_rfl) (q2u (k := .u64) Tryz.underlying22))))) (fun y => by kernel_rfl) (fun y h => h)
def Wt.wf (x : Wt) : Prop := (Rf.wf x.ref) ∧ (U x.index) ∧ (U x.val) ∧ True
theorem Wt.opens : q4k Tryz.prog 49 Wt.enc Wt.wf := q4h (q4s (f := fun x : Wt => (x.ref, x.index, x.val, x.dev)) (fun y => ⟨y.1, y.2.1, y.2.2.1, y.2.2.2⟩) (fun _ => rfl) (q4d Tryz.underlying49 (by kernel_rfl) (q2o (s := 2) rfl (by kernel_rfl) Rf.opens (q2o (s := 1) rfl (by kernel_rfl) (q2u (k := .u64) Tryz.underlying22) (q2o (s := 1) rfl (by kernel_rfl) (q2u (k := .u64) Tryz.underlying22) (q4r (sz := 1) rfl (by kernel_rfl) (q9i Tryz.underlying4))))))) (fun y => by kernel_rfl) (fun y h => h)
def Sp.wf (x : Sp) : Prop := (U x.lo) ∧ (U x.hi)
theorem Sp.opens : q4k Tryz.prog 51 Sp.enc Sp.wf := q4h (q4s (f := fun x : Sp => (x.lo, x.hi)) (fun y => ⟨y.1, y.2⟩) (fun _ => rfl) (q4d Tryz.underlying51 (by kernel_rfl) (q2o (s := 1) rfl (by kernel_rfl) (q2u (k := .u64) Tryz.underlying22) (q4r (sz := 1) rfl (by kernel_rfl) (q2u (k := .u64) Tryz.underlying22))))) (fun y => by kernel_rfl) (fun y h => h)
def Th.wf (x : Th) : Prop := (∀ i, i < 16 → (U (x.regs i))) ∧ (U x.pc) ∧ ((∀ y ∈ x.clear, Pr.wf y) ∧ x.clear.length ≤ maxLen) ∧ (Rf.wf x.space) ∧ (U x.handler) ∧ (U x.vector) ∧ (I x.state) ∧ (Wt.wf x.wait) ∧ ((∀ y ∈ x.alerts, U y) ∧ x.alerts.length ≤ maxLen) ∧ (Sp.wf x.span) ∧ (∀ i, i < 4 → ((∀ y ∈ (x.labs i), Pr.wf y) ∧ (x.labs i).length ≤ maxLen))
theorem Th.opens : q4k Tryz.prog 54 Th.enc Th.wf := q4h (q4s (f := fun x : Th => (x.regs, x.pc, x.clear, x.space, x.handler, x.vector, x.state, x.wait, x.alerts, x.span, x.labs)) (fun y => ⟨y.1, y.2.1, y.2.2.1, y.2.2.2.1, y.2.2.2.2.1, y.2.2.2.2.2.1, y.2.2.2.2.2.2.1, y.2.2.2.2.2.2.2.1, y.2.2.2.2.2.2.2.2.1, y.2.2.2.2.2.2.2.2.2.1, y.2.2.2.2.2.2.2.2.2.2⟩) (fun _ => rfl) (q4d Tryz.underlying54 (by kernel_rfl) (q2o (s := 16) rfl (by kernel_rfl) (q7w (n := 16) Tryz.underlying45 (by kernel_rfl) (by kernel_rfl) (q2u (k := .u64) Tryz.underlying22)) (q2o (s := 1) rfl (by kernel_rfl) (q2u (k := .u64) Tryz.underlying22) (q2o (s := 1) rfl (by kernel_rfl) (q3x (sz := 2) Tryz.underlying43 Pr.len (by kernel_rfl) (by decide) Pr.opens) (q2o (s := 2) rfl (by kernel_rfl) Rf.opens (q2o (s := 1) rfl (by kernel_rfl) (q2u (k := .u64) Tryz.underlying22) (q2o (s := 1) rfl (by kernel_rfl) (q2u (k := .u64) Tryz.underlying22) (q2o (s := 1) rfl (by kernel_rfl) (q2u (k := .i64) Tryz.underlying3) (q2o (s := 5) rfl (by kernel_rfl) Wt.opens (q2o (s := 1) rfl (by kernel_rfl) (q3x (sz := 1) Tryz.underlying41 u64_len (by kernel_rfl) (by decide) (q2u (k := .u64) Tryz.underlying22)) (q2o (s := 2) rfl (by kernel_rfl) Sp.opens (q4r (sz := 4) rfl (by kernel_rfl) (q7w (n := 4) Tryz.underlying52 (by kernel_rfl) (by kernel_rfl) (q3x (sz := 2) Tryz.underlying43 Pr.len (by kernel_rfl) (by decide) Pr.opens))))))))))))))) (fun y => by kernel_rfl) (fun y h => h)
def Gt.wf (x : Gt) : Prop := ((∀ y ∈ x.grant, Pr.wf y) ∧ x.grant.length ≤ maxLen) ∧ ((∀ y ∈ x.clear, Pr.wf y) ∧ x.clear.length ≤ maxLen) ∧ (Rf.wf x.space) ∧ (U x.pc) ∧ (U x.arg)
theorem Gt.opens : q4k Tryz.prog 56 Gt.enc Gt.wf := q4h (q4s (f := fun x : Gt => (x.grant, x.clear, x.space, x.pc, x.arg)) (fun y => ⟨y.1, y.2.1, y.2.2.1, y.2.2.2.1, y.2.2.2.2⟩) (fun _ => rfl) (q4d Tryz.underlying56 (by kernel_rfl) (q2o (s := 1) rfl (by kernel_rfl) (q3x (sz := 2) Tryz.underlying43 Pr.len (by kernel_rfl) (by decide) Pr.opens) (q2o (s := 1) rfl (by kernel_rfl) (q3x (sz := 2) Tryz.underlying43 Pr.len (by kernel_rfl) (by decide) Pr.opens) (q2o (s := 2) rfl (by kernel_rfl) Rf.opens (q2o (s := 1) rfl (by kernel_rfl) (q2u (k := .u64) Tryz.underlying22) (q4r (sz := 1) rfl (by kernel_rfl) (q2u (k := .u64) Tryz.underlying22)))))))) (fun y => by kernel_rfl) (fun y h => h)
def Ob.wf (x : Ob) : Prop := (U x.id) ∧ (I x.kind) ∧ ((∀ y ∈ x.label, Pr.wf y) ∧ x.label.length ≤ maxLen) ∧ (I x.quota) ∧ True ∧ ((∀ y ∈ x.links, U y) ∧ x.links.length ≤ maxLen) ∧ ((∀ y ∈ x.data, U y) ∧ x.data.length ≤ maxLen) ∧ ((∀ y ∈ x.maps, Mp.wf y) ∧ x.maps.length ≤ maxLen) ∧ (Th.wf x.thread) ∧ (Gt.wf x.gate) ∧ ((∀ y ∈ x.inn, U y) ∧ x.inn.length ≤ maxLen) ∧ ((∀ y ∈ x.out, U y) ∧ x.out.length ≤ maxLen)
theorem Ob.opens : q4k Tryz.prog 58 Ob.enc Ob.wf := q4h (q4s (f := fun x : Ob => (x.id, x.kind, x.label, x.quota, x.fixed, x.links, x.data, x.maps, x.thread, x.gate, x.inn, x.out)) (fun y => ⟨y.1, y.2.1, y.2.2.1, y.2.2.2.1, y.2.2.2.2.1, y.2.2.2.2.2.1, y.2.2.2.2.2.2.1, y.2.2.2.2.2.2.2.1, y.2.2.2.2.2.2.2.2.1, y.2.2.2.2.2.2.2.2.2.1, y.2.2.2.2.2.2.2.2.2.2.1, y.2.2.2.2.2.2.2.2.2.2.2⟩) (fun _ => rfl) (q4d Tryz.underlying58 (by kernel_rfl) (q2o (s := 1) rfl (by kernel_rfl) (q2u (k := .u64) Tryz.underlying22) (q2o (s := 1) rfl (by kernel_rfl) (q2u (k := .i64) Tryz.underlying3) (q2o (s := 1) rfl (by kernel_rfl) (q3x (sz := 2) Tryz.underlying43 Pr.len (by kernel_rfl) (by decide) Pr.opens) (q2o (s := 1) rfl (by kernel_rfl) (q2u (k := .i64) Tryz.underlying3) (q2o (s := 1) rfl (by kernel_rfl) (q9i Tryz.underlying4) (q2o (s := 1) rfl (by kernel_rfl) (q3x (sz := 1) Tryz.underlying41 u64_len (by kernel_rfl) (by decide) (q2u (k := .u64) Tryz.underlying22)) (q2o (s := 1) rfl (by kernel_rfl) (q3x (sz := 1) Tryz.underlying41 u64_len (by kernel_rfl) (by decide) (q2u (k := .u64) Tryz.underlying22)) (q2o (s := 1) rfl (by kernel_rfl) (q3x (sz := 6) Tryz.underlying44 Mp.len (by kernel_rfl) (by decide) Mp.opens) (q2o (s := 35) rfl (by kernel_rfl) Th.opens (q2o (s := 6) rfl (by kernel_rfl) Gt.opens (q2o (s := 1) rfl (by kernel_rfl) (q3x (sz := 1) Tryz.underlying41 u64_len (by kernel_rfl) (by decide) (q2u (k := .u64) Tryz.underlying22)) (q4r (sz := 1) rfl (by kernel_rfl) (q3x (sz := 1) Tryz.underlying41 u64_len (by kernel_rfl) (by decide) (q2u (k := .u64) Tryz.underlying22)))))))))))))))) (fun y => by kernel_rfl) (fun y h => h)
def Wd.wf (x : Wd) : Prop := (I x.time) ∧ (U x.key) ∧ (U x.root) ∧ ((∀ y ∈ x.objects, Ob.wf y) ∧ x.objects.length ≤ maxLen)
theorem Wd.opens : q4k Tryz.prog 25 Wd.enc Wd.wf := q4h (q4s (f := fun x : Wd => (x.time, x.key, x.root, x.objects)) (fun y => ⟨y.1, y.2.1, y.2.2.1, y.2.2.2⟩) (fun _ => rfl) (q4d Tryz.underlying25 (by kernel_rfl) (q2o (s := 1) rfl (by kernel_rfl) (q2u (k := .i64) Tryz.underlying3) (q2o (s := 1) rfl (by kernel_rfl) (q2u (k := .u64) Tryz.underlying22) (q2o (s := 1) rfl (by kernel_rfl) (q2u (k := .u64) Tryz.underlying22) (q4r (sz := 1) rfl (by kernel_rfl) (q3x (sz := 51) Tryz.underlying23 Ob.len (by kernel_rfl) (by decide) Ob.opens))))))) (fun y => by kernel_rfl) (fun y h => h)
theorem opens_u64s : q4k Tryz.prog 41 (fun l : List Int => [.sl (l.map u64)]) (fun l => (∀ y ∈ l, U y) ∧ l.length ≤ maxLen) := (q3x (sz := 1) Tryz.underlying41 u64_len (by kernel_rfl) (by decide) (q2u (k := .u64) Tryz.underlying22))
end Go.Proofs.YteibeoipnjhicaaGreat
end

section
namespace Go.Proofs.YteibeoipnjhicaaGreat
open Go Go.RowKit
set_option linter.unusedVariables false
set_option linter.unusedSimpArgs false
theorem q3d (k : Nat) (h : k < 9223372036854775807) : IntKind.i64.wrap ((k : Int) + 1) = ((k + 1 : Nat) : Int) := by
  rw [IntKind.wrap_i64]; omega
theorem q9n (k : Nat) (h : k < 9223372036854775807) : IntKind.i64.wrap (((k + 1 : Nat) : Int) - 1) = (k : Int) := by
  rw [IntKind.wrap_i64]; omega
theorem gt_prev (k : Nat) : decide (((k + 1 : Nat) : Int) > 0) = true := decide_eq_true (by omega)
@[go_sem] theorem gt_zero : decide (((0 : Nat) : Int) > 0) = false := rfl
@[go_sem] theorem wrap_lit {n : Int} (h1 : -9223372036854775808 ≤ n) (h2 : n ≤ 9223372036854775807) : IntKind.i64.wrap n = n := by rw [IntKind.wrap_i64]; omega
theorem q3j {α : Type} {l : List α} {k : Nat} (h : k < l.length) : ∃ x, l[k]? = some x := ⟨l[k], by simp [h]⟩
theorem q5f {α : Type} {l : List α} {k : Nat} {x : α} (h : l[k]? = some x) : k < l.length := (List.getElem?_eq_some_iff.1 h).1
theorem q3o {k n : Nat} (h : k < n) : decide ((k : Int) < (n : Int)) = true := decide_eq_true (by omega)
theorem q2z {k n : Nat} (h : n ≤ k) : decide ((k : Int) < (n : Int)) = false := decide_eq_false (by omega)
theorem q4w {α : Type} {l : List α} {k : Nat} {x : α} (h : l[k]? = some x) : l.take (k + 1) = l.take k ++ [x] := by
  rw [List.take_add_one, h]; rfl
theorem c0 : ((0 : Nat) : Int) = 0 := rfl
theorem c1 : ((1 : Nat) : Int) = 1 := rfl
theorem c2 : ((2 : Nat) : Int) = 2 := rfl
theorem c3 : ((3 : Nat) : Int) = 3 := rfl
@[go_sem] theorem c16 : ((16 : Nat) : Int) = 16 := rfl
@[go_sem] theorem c4 : ((4 : Nat) : Int) = 4 := rfl
@[go_sem] theorem cut_drop {P : Program} {t : TypeId} {l : List PV} {o : Nat} (h : o ≤ l.length) : cut P t (l.drop o) 0 = cut P t l o := by
  unfold cut
  cases aggT P t with
  | none => rfl
  | some b =>
    cases b with
    | true =>
      simp only [List.length_drop, Nat.zero_add, List.drop_zero]
      by_cases h1 : o + P.cellsOf t ≤ l.length
      · rw [if_pos h1, if_pos (by omega)]
      · rw [if_neg h1, if_neg (by omega)]
    | false => simp
attribute [go_sem] List.drop_zero List.drop_drop
def allB (n : Nat) (f : Nat → Bool) : Bool := (List.range n).all f
theorem q3v {n : Nat} {f : Nat → Bool} (h : ∀ j, j < n → f j = true) : allB n f = true := by simp only [allB, List.all_eq_true, List.mem_range]; exact h
theorem q3s {n k : Nat} {f : Nat → Bool} (hk : k < n) (h : f k = false) : allB n f = false := by
  rw [Bool.eq_false_iff]
  intro e
  simp only [allB, List.all_eq_true, List.mem_range] at e
  rw [e k hk] at h; cases h
theorem allB_iff {n : Nat} {f : Nat → Bool} : allB n f = true ↔ ∀ j, j < n → f j = true := by simp only [allB, List.all_eq_true, List.mem_range]
theorem q5t {n : Nat} {f : Nat → Bool} (h : ∀ j, j < n → f j = true) (k : f n = true) : ∀ j, j < n + 1 → f j = true := by
  intro j hj
  rcases Nat.lt_or_ge j n with h1 | h1
  · exact h j h1
  · have : j = n := by omega
    subst this; exact k
theorem q2w {a b : Bool} (h : a = b) : Out.ret (.bool a) = Out.ret (.bool b) := by rw [h]
theorem again {S : Type} {m0 : Nat} {μ : S → Nat} {Inv : S → Prop} {E : S → List (Nat × PV)} {G : S → List (Nat × HE)} {mm : S → Nat} {s : S} {env : Env} {H : Heap} {m : Nat} (s' : S) (h2 : Inv s') (h1 : μ s' < μ s) (h3 : Keep m0 env H m (E s') (G s') (mm s')) : q4c m0 μ Inv E G mm s env H m := ⟨s', h1, h2, h3⟩
def accV {α : Type} (id : Nat) : List α → PV
  | [] => .nilsl
  | a :: l => .gr id (l.length + 1)
def accG {α : Type} (id e sz : Nat) (f : α → List PV) : List α → List (Nat × HE)
  | [] => []
  | a :: l => [(id, .row e sz (List.map f (a :: l)))]
def accM {α : Type} (b id : Nat) : List α → Nat
  | [] => b
  | a :: l => id + 1
theorem q3a {α : Type} (id : Nat) : accV id ([] : List α) = .nilsl := rfl
theorem q3c {α : Type} (id e sz : Nat) (f : α → List PV) : accG id e sz f [] = [] := rfl
theorem q3b {α : Type} (b id : Nat) : accM b id ([] : List α) = b := rfl
theorem q3p {α : Type} {id : Nat} {l : List α} (h : l ≠ []) : accV id l = .gr id l.length := by cases l with
  | nil => exact absurd rfl h
  | cons a l => rfl
theorem q3r {α : Type} {id e sz : Nat} {f : α → List PV} {l : List α} (h : l ≠ []) : accG id e sz f l = [(id, .row e sz (List.map f l))] := by cases l with
  | nil => exact absurd rfl h
  | cons a l => rfl
theorem q3q {α : Type} {b id : Nat} {l : List α} (h : l ≠ []) : accM b id l = id + 1 := by cases l with
  | nil => exact absurd rfl h
  | cons a l => rfl
theorem snoc_ne {α : Type} (l : List α) (x : α) : l ++ [x] ≠ [] := by simp
theorem q3k {α : Type} (id : Nat) (l : List α) (x : α) : accV id (l ++ [x]) = .gr id (l.length + 1) := by rw [q3p (snoc_ne l x)]; simp
theorem q3m {α : Type} (id e sz : Nat) (f : α → List PV) (l : List α) (x : α) : accG id e sz f (l ++ [x]) = [(id, .row e sz (List.map f (l ++ [x])))] := q3r (snoc_ne l x)
theorem q3l {α : Type} (b id : Nat) (l : List α) (x : α) : accM b id (l ++ [x]) = id + 1 := q3q (snoc_ne l x)
@[go_sem] theorem one_max : (1 ≤ maxLen) = True := by simp [maxLen]
theorem q5r {k : Nat} (h : k < 1000000) : (k + 1 ≤ maxLen) = True := by simp [maxLen]; omega
theorem q6i {k b : Nat} (h : k < 1000000) (hb : b ≤ 1000) : ((k + 1) * b ≤ 140737488355328) = True := by
  rw [eq_iff_iff, iff_true]
  exact Nat.le_trans (Nat.mul_le_mul (by omega : k + 1 ≤ 1000000) hb) (by decide)
theorem q4f {α : Type} (l : List α) : l = [] ∨ l ≠ [] := by cases l <;> simp
end Go.Proofs.YteibeoipnjhicaaGreat
end
