import Derived.Orders
import Derived.Below
import Derived.Deep.AppendSrc
import Derived.Laws.Rows
import Derived.KernelRfl
import Derived.Laws.Slices
import Derived.Laws.Tables
import Derived.ChangeKeysEq
import Derived.Great.BuildSlice
import Derived.Laws.MakeOwn
section
namespace Go.Proofs.YtoibbedpaaeclaaGreat
open Go Go.RowKit
set_option linter.unusedVariables false
set_option linter.unusedSimpArgs false
inductive PV where
  | any | undef | nilif | nilfn | nilsl
  | bool (b : Bool)
  | int (k : IntKind) (n : Int)
  | str (s : ByteArray)
  | agg (l : List PV)
  | tup (l : List PV)
  | sl (els : List (List PV))
  | gr (id k : Nat)
  | ref (l : List PV)
  | ptr (id off : Nat)
  | fn (f : Fn) (first cap : List PV)
  | ifc (t : TypeId) (v : PV)
  | bs (id n e sz : Nat)
  | bz
  | c0
  deriving Inhabited
/-- What is known of an own block: its number, and of an own row its capacity and its length. -/
structure Gh where
  blk : Nat
  cap : Nat
  len : Nat
  ty : Nat
  sz : Nat
inductive VR (w : World) (M : Nat → Nat → Prop) (σ : Nat → Gh) (L : Nat → Prop) : Value → PV → Prop
  | any (v) : VR w M σ L v .any
  | undef : VR w M σ L (.tuple #[]) .undef
  | nilif : VR w M σ L .nilIface .nilif
  | nilfn : VR w M σ L .nilFunc .nilfn
  | nilsl (A) : VR w M σ L (.slice A 0 0) .nilsl
  | bool (b) : VR w M σ L (.bool b) (.bool b)
  | int (k n) : VR w M σ L (.int k n) (.int k n)
  | str (s) : VR w M σ L (.string s) (.str s)
  | agg (cs : List Value) (l : List PV) (hl : cs.length = l.length) (h1 : ∀ v ∈ cs, v.oneCell' = true) (h : ∀ (i : Nat) (v : Value) (p : PV), cs[i]? = some v → l[i]? = some p → VR w M σ L v p) : VR w M σ L (.agg cs.toArray) (.agg l)
  | tup (cs : List Value) (l : List PV) (hl : cs.length = l.length) (h : ∀ (i : Nat) (v : Value) (p : PV), cs[i]? = some v → l[i]? = some p → VR w M σ L v p) : VR w M σ L (.tuple cs.toArray) (.tup l)
  | sl0 (A cap) : VR w M σ L (.slice A 0 cap) (.sl [])
  | sl (b o sz cap : Nat) (els : List (List PV)) (hc : els.length ≤ cap) (hs : ∀ e ∈ els, e.length = sz) (f : Nat → Value)
      (hcell : ∀ (q : Nat) (p : PV), els.flatten[q]? = some p → w.cell? ⟨b, o + q, none⟩ = some (f q) ∧ ¬ M b (o + q) ∧ (f q).oneCell' = true)
      (h : ∀ (q : Nat) (p : PV), els.flatten[q]? = some p → VR w M σ L (f q) p) : VR w M σ L (.slice (some ⟨b, o, none⟩) els.length cap) (.sl els)
  | gr (id k : Nat) (v : Value) (h0 : 0 < k) (hle : k ≤ (σ id).len) (hL : L id) (hv : k = (σ id).len → v = .slice (some ⟨(σ id).blk, 0, none⟩) k (σ id).cap) : VR w M σ L v (.gr id k)
  | ref (b o : Nat) (l : List PV) (f : Nat → Value) (hcell : ∀ (q : Nat) (p : PV), l[q]? = some p → w.cell? ⟨b, o + q, none⟩ = some (f q) ∧ ¬ M b (o + q) ∧ (f q).oneCell' = true)
      (h : ∀ (q : Nat) (p : PV), l[q]? = some p → VR w M σ L (f q) p) : VR w M σ L (.pointer (some ⟨b, o, none⟩)) (.ref l)
  | ptr (id off : Nat) (hL : L id) (h0 : (σ id).len = 0) : VR w M σ L (.pointer (some ⟨(σ id).blk, off, none⟩)) (.ptr id off)
  | fn (f : Fn) (fs cs : List Value) (l1 l2 : List PV) (hl1 : fs.length = l1.length) (hl2 : cs.length = l2.length)
      (h1 : ∀ (i : Nat) (v : Value) (p : PV), fs[i]? = some v → l1[i]? = some p → VR w M σ L v p) (h2 : ∀ (i : Nat) (v : Value) (p : PV), cs[i]? = some v → l2[i]? = some p → VR w M σ L v p) : VR w M σ L (.func f fs.toArray cs.toArray) (.fn f l1 l2)
  | ifc (t v p) (h : VR w M σ L v p) : VR w M σ L (.iface t v) (.ifc t p)
  | bs (id n e sz : Nat) (hL : L id) (h0 : (σ id).len = 0) (hc : n ≤ (σ id).cap) (hty : (σ id).ty = e) (hsz : (σ id).sz = sz) : VR w M σ L (.slice (some ⟨(σ id).blk, 0, none⟩) n (σ id).cap) (.bs id n e sz)
  | bz : VR w M σ L (.slice none 0 0) .bz
  | c0 (A) : VR w M σ L (.slice A 0 0) .c0
/-- From one state to a later one. -/
structure Ext (w : World) (M : Nat → Nat → Prop) (σ : Nat → Gh) (L : Nat → Prop) (w' : World) (M' : Nat → Nat → Prop) (σ' : Nat → Gh) (L' : Nat → Prop) : Prop where
  cell : ∀ b o v, w.cell? ⟨b, o, none⟩ = some v → ¬ M b o → w'.cell? ⟨b, o, none⟩ = some v ∧ ¬ M' b o
  gh : ∀ id, L id → L' id ∧ (σ' id = σ id ∨ (0 < (σ id).len ∧ (σ id).len < (σ' id).len))
theorem VR.mono {w M σ L w' M' σ' L'} (E : Ext w M σ L w' M' σ' L') {v : Value} {p : PV} (h : VR w M σ L v p) : VR w' M' σ' L' v p := by
  induction h with
  | any v => exact .any v
  | undef => exact .undef
  | nilif => exact .nilif
  | nilfn => exact .nilfn
  | nilsl A => exact .nilsl A
  | bool b => exact .bool b
  | int k n => exact .int k n
  | str s => exact .str s
  | agg cs l hl h1 h ih => exact .agg cs l hl h1 ih
  | tup cs l hl h ih => exact .tup cs l hl ih
  | sl0 A cap => exact .sl0 A cap
  | sl b o sz cap els hc hs f hcell h ih => exact .sl b o sz cap els hc hs f (fun q p hq => have ⟨h1, h2, h3⟩ := hcell q p hq; have ⟨g1, g2⟩ := E.cell _ _ _ h1 h2; ⟨g1, g2, h3⟩) ih
  | gr id k v h0 hle hL hv =>
    obtain ⟨g1, g2⟩ := E.gh id hL
    rcases g2 with g2 | ⟨g2, g3⟩
    · exact .gr id k v h0 (by rw [g2]; exact hle) g1 (by rw [g2]; exact hv)
    · exact .gr id k v h0 (by omega) g1 (fun e => by omega)
  | ref b o l f hcell h ih => exact .ref b o l f (fun q p hq => have ⟨h1, h2, h3⟩ := hcell q p hq; have ⟨g1, g2⟩ := E.cell _ _ _ h1 h2; ⟨g1, g2, h3⟩) ih
  | ptr id off hL h0 =>
    obtain ⟨g1, g2⟩ := E.gh id hL
    rcases g2 with g2 | ⟨g2, g3⟩
    · rw [← g2]; exact .ptr id off g1 (by rw [g2]; exact h0)
    · omega
  | fn f fs cs l1 l2 hl1 hl2 h1 h2 ih1 ih2 => exact .fn f fs cs l1 l2 hl1 hl2 ih1 ih2
  | ifc t v p h ih => exact .ifc t v p ih
  | bs id n e sz hL h0 hc hty hsz =>
    obtain ⟨g1, g2⟩ := E.gh id hL
    rcases g2 with g2 | ⟨g2, g3⟩
    · rw [← g2]; exact .bs id n e sz g1 (by rw [g2]; exact h0) (by rw [g2]; exact hc) (by rw [g2]; exact hty) (by rw [g2]; exact hsz)
    · omega
  | bz => exact .bz
  | c0 A => exact .c0 A
theorem Ext.refl (w M σ L) : Ext w M σ L w M σ L := ⟨fun _ _ _ h1 h2 => ⟨h1, h2⟩, fun _ h => ⟨h, .inl rfl⟩⟩
theorem Ext.trans {w M σ L w' M' σ' L' w'' M'' σ'' L''} (h : Ext w M σ L w' M' σ' L') (k : Ext w' M' σ' L' w'' M'' σ'' L'') : Ext w M σ L w'' M'' σ'' L'' := by
  refine ⟨fun b o v h1 h2 => ?_, fun id hid => ?_⟩
  · obtain ⟨a1, a2⟩ := h.cell b o v h1 h2
    exact k.cell b o v a1 a2
  · obtain ⟨a1, a2⟩ := h.gh id hid
    obtain ⟨b1, b2⟩ := k.gh id a1
    refine ⟨b1, ?_⟩
    rcases a2 with a2 | a2 <;> rcases b2 with b2 | b2
    · exact .inl (b2.trans a2)
    · rw [a2] at b2; exact .inr b2
    · rw [b2]; exact .inr a2
    · exact .inr ⟨a2.1, Nat.lt_trans a2.2 b2.2⟩
/-- Only own blocks of S are named. -/
inductive Bd (S : Nat → Prop) : PV → Prop
  | any : Bd S .any
  | undef : Bd S .undef
  | nilif : Bd S .nilif
  | nilfn : Bd S .nilfn
  | nilsl : Bd S .nilsl
  | bool (b) : Bd S (.bool b)
  | int (k n) : Bd S (.int k n)
  | str (s) : Bd S (.str s)
  | agg (l) (h : ∀ p ∈ l, Bd S p) : Bd S (.agg l)
  | tup (l) (h : ∀ p ∈ l, Bd S p) : Bd S (.tup l)
  | sl (els) (h : ∀ e ∈ els, ∀ p ∈ e, Bd S p) : Bd S (.sl els)
  | gr (id k) (h : S id) : Bd S (.gr id k)
  | ref (l) (h : ∀ p ∈ l, Bd S p) : Bd S (.ref l)
  | ptr (id off) (h : S id) : Bd S (.ptr id off)
  | fn (f l1 l2) (h1 : ∀ p ∈ l1, Bd S p) (h2 : ∀ p ∈ l2, Bd S p) : Bd S (.fn f l1 l2)
  | ifc (t v) (h : Bd S v) : Bd S (.ifc t v)
  | bs (id n e sz) (h : S id) : Bd S (.bs id n e sz)
  | bz : Bd S .bz
  | c0 : Bd S .c0
abbrev NoId (p : PV) : Prop := Bd (fun _ => False) p
theorem q3m {α : Type} {l : List α} {i : Nat} {p : α} (h : l[i]? = some p) : p ∈ l := List.mem_of_getElem? h
/-- Which own blocks there are plays no part for a value that names those of S alone. -/
theorem VR.bd {w M σ L M' σ' L'} {S : Nat → Prop} (hM : ∀ b o v, w.cell? ⟨b, o, none⟩ = some v → ¬ M b o → ¬ M' b o) (hS : ∀ id, S id → L' id ∧ σ' id = σ id) {v : Value} {p : PV} (h : VR w M σ L v p) (hb : Bd S p) : VR w M' σ' L' v p := by
  induction h with
  | any v => exact .any v
  | undef => exact .undef
  | nilif => exact .nilif
  | nilfn => exact .nilfn
  | nilsl A => exact .nilsl A
  | bool b => exact .bool b
  | int k n => exact .int k n
  | str s => exact .str s
  | agg cs l hl h1 h ih => cases hb with | agg _ hb => exact .agg cs l hl h1 (fun i v p hv hp => ih i v p hv hp (hb p (q3m hp)))
  | tup cs l hl h ih => cases hb with | tup _ hb => exact .tup cs l hl (fun i v p hv hp => ih i v p hv hp (hb p (q3m hp)))
  | sl0 A cap => exact .sl0 A cap
  | sl b o sz cap els hc hs f hcell h ih =>
    cases hb with
    | sl _ hb =>
      exact .sl b o sz cap els hc hs f (fun q p hq => have ⟨h1, h2, h3⟩ := hcell q p hq; ⟨h1, hM _ _ _ h1 h2, h3⟩) (fun q p hq => ih q p hq (by
        obtain ⟨e, he, hp⟩ := List.mem_flatten.1 (q3m hq)
        exact hb e he p hp))
  | gr id k v h0 hle hL hv =>
    cases hb with
    | gr _ _ hs => obtain ⟨g1, g2⟩ := hS id hs; exact .gr id k v h0 (by rw [g2]; exact hle) g1 (by rw [g2]; exact hv)
  | ref b o l f hcell h ih => cases hb with | ref _ hb => exact .ref b o l f (fun q p hq => have ⟨h1, h2, h3⟩ := hcell q p hq; ⟨h1, hM _ _ _ h1 h2, h3⟩) (fun q p hq => ih q p hq (hb p (q3m hq)))
  | ptr id off hL h0 => cases hb with | ptr _ _ hs => obtain ⟨g1, g2⟩ := hS id hs; rw [← g2]; exact .ptr id off g1 (by rw [g2]; exact h0)
  | fn f fs cs l1 l2 hl1 hl2 h1 h2 ih1 ih2 => cases hb with | fn _ _ _ hb1 hb2 => exact .fn f fs cs l1 l2 hl1 hl2 (fun i v p hv hp => ih1 i v p hv hp (hb1 p (q3m hp))) (fun i v p hv hp => ih2 i v p hv hp (hb2 p (q3m hp)))
  | ifc t v p h ih => cases hb with | ifc _ _ hb => exact .ifc t v p (ih hb)
  | bs id n e sz hL h0 hc hty hsz => cases hb with | bs _ _ _ _ hs => obtain ⟨g1, g2⟩ := hS id hs; rw [← g2]; exact .bs id n e sz g1 (by rw [g2]; exact h0) (by rw [g2]; exact hc) (by rw [g2]; exact hty) (by rw [g2]; exact hsz)
  | bz => exact .bz
  | c0 A => exact .c0 A
inductive HE where
  | box (l : List PV)
  | row (e sz : Nat) (els : List (List PV))
abbrev Heap := Nat → Option HE
def hset (H : Heap) (id : Nat) (x : Option HE) : Heap := fun i => if i = id then x else H i
def gset (σ : Nat → Gh) (id : Nat) (g : Gh) : Nat → Gh := fun i => if i = id then g else σ i
theorem q1m (H : Heap) (id x) : hset H id x id = x := if_pos rfl
theorem q1b (H : Heap) {id i : Nat} (x) (h : i ≠ id) : hset H id x i = H i := if_neg h
theorem q1c (σ : Nat → Gh) (id x) : gset σ id x id = x := if_pos rfl
theorem q3x (σ : Nat → Gh) {id i : Nat} (x) (h : i ≠ id) : gset σ id x i = σ i := if_neg h
def MU (M0 : Nat → Nat → Prop) (σ : Nat → Gh) (H : Heap) (b o : Nat) : Prop :=
  M0 b o ∨ (∃ id l, H id = some (.box l) ∧ (σ id).blk = b) ∨ (∃ id e sz els, H id = some (.row e sz els) ∧ (σ id).blk = b ∧ els.length * sz ≤ o)
def LV (H : Heap) (id : Nat) : Prop := H id ≠ none
abbrev VV (w : World) (M0 : Nat → Nat → Prop) (σ : Nat → Gh) (H : Heap) : Value → PV → Prop := VR w (MU M0 σ H) σ (LV H)
structure CR (w : World) (M : Nat → Nat → Prop) (σ : Nat → Gh) (L : Nat → Prop) (cs : List Value) (l : List PV) : Prop where
  len : cs.length = l.length
  one : ∀ v ∈ cs, v.oneCell' = true
  rel : ∀ (i : Nat) (v : Value) (p : PV), cs[i]? = some v → l[i]? = some p → VR w M σ L v p
theorem CR.mono {w M σ L w' M' σ' L'} (E : Ext w M σ L w' M' σ' L') {cs l} (h : CR w M σ L cs l) : CR w' M' σ' L' cs l := ⟨h.len, h.one, fun i v p hv hp => (h.rel i v p hv hp).mono E⟩
/-- A box's block: its element type, and its cells. -/
def Shp (g : Gh) (t : TypeId) (c : Array Value) : Prop := t = g.ty ∧ c.size = g.cap * g.sz ∧ g.cap ≤ maxLen
structure HR (w : World) (M0 : Nat → Nat → Prop) (σ : Nat → Gh) (H : Heap) : Prop where
  m0 : ∀ b o, M0 b o → b < w.heap.size
  sep : ∀ id, H id ≠ none → ∀ o, ¬ M0 (σ id).blk o
  inj : ∀ i j, H i ≠ none → H j ≠ none → (σ i).blk = (σ j).blk → i = j
  box : ∀ id l, H id = some (.box l) → (σ id).len = 0 ∧ ∃ (c : Array Value) (t : TypeId), w.heap[(σ id).blk]? = some (.cells c t (0, 0)) ∧ Shp (σ id) t c ∧ CR w (MU M0 σ H) σ (LV H) (c.toList.take l.length) l
  row : ∀ id e sz els, H id = some (.row e sz els) → 0 < els.length ∧ (σ id).len = els.length ∧ (∀ x ∈ els, x.length = sz) ∧ ∃ xs, w.ownsRow 0 e sz (.slice (some ⟨(σ id).blk, 0, none⟩) els.length (σ id).cap) els.length xs ∧ CR w (MU M0 σ H) σ (LV H) xs els.flatten
theorem HR.lt {w M0 σ H} (h : HR w M0 σ H) {id : Nat} (hid : H id ≠ none) : (σ id).blk < w.heap.size := by
  cases he : H id with
  | none => exact absurd he hid
  | some e =>
    cases e with
    | box l => obtain ⟨_, c, t, hg, _, _⟩ := h.box id l he; exact (Array.getElem?_eq_some_iff.1 hg).1
    | row e sz els => obtain ⟨_, _, _, xs, ho, _⟩ := h.row id e sz els he; exact (ho.lt _ rfl).2
theorem mu_lt {w M0 σ H} (h : HR w M0 σ H) {b o : Nat} (hm : MU M0 σ H b o) : b < w.heap.size := by
  rcases hm with hm | ⟨id, l, hl, rfl⟩ | ⟨id, e, sz, els, hl, rfl, _⟩
  · exact h.m0 b o hm
  · exact h.lt (by rw [hl]; simp)
  · exact h.lt (by rw [hl]; simp)
/-- The frame: from the state in which a call began. -/
structure Fr (w : World) (M0 : Nat → Nat → Prop) (σ : Nat → Gh) (H : Heap) (w' : World) (σ' : Nat → Gh) (H' : Heap) : Prop where
  os : w'.os = w.os
  tape : w'.tape = w.tape
  output : w'.output = w.output
  size : w.heap.size ≤ w'.heap.size
  block : ∀ b, b < w.heap.size → (∀ id, H id ≠ none → (σ id).blk ≠ b) → w'.heap[b]? = w.heap[b]?
  own : ∀ id, H' id ≠ none → w.heap.size ≤ (σ' id).blk ∨ ∃ j, H j ≠ none ∧ (σ j).blk = (σ' id).blk
  ext : Ext w (MU M0 σ H) σ (LV H) w' (MU M0 σ' H') σ' (LV H')
theorem Fr.refl (w M0 σ H) : Fr w M0 σ H w σ H := ⟨rfl, rfl, rfl, Nat.le_refl _, fun _ _ _ => rfl, fun id h => .inr ⟨id, h, rfl⟩, Ext.refl _ _ _ _⟩
theorem Fr.trans {w M0 σ H w' σ' H' w'' σ'' H''} (h : Fr w M0 σ H w' σ' H') (k : Fr w' M0 σ' H' w'' σ'' H'') : Fr w M0 σ H w'' σ'' H'' := by
  refine ⟨k.os.trans h.os, k.tape.trans h.tape, k.output.trans h.output, Nat.le_trans h.size k.size, fun b hb hn => ?_, fun id hid => ?_, h.ext.trans k.ext⟩
  · rw [k.block b (Nat.lt_of_lt_of_le hb h.size) (fun id hid e => ?_), h.block b hb hn]
    rcases h.own id hid with g | ⟨j, g1, g2⟩
    · omega
    · exact hn j g1 (g2.trans e)
  · rcases k.own id hid with g | ⟨j, g1, g2⟩
    · exact .inl (Nat.le_trans h.size g)
    · rcases h.own j g1 with g | ⟨i, e1, e2⟩
      · exact .inl (by omega)
      · exact .inr ⟨i, e1, e2.trans g2⟩
theorem q5r {w w' : World} {b o : Nat} {v : Value} (h : w.cell? ⟨b, o, none⟩ = some v) (hb : w'.heap[b]? = w.heap[b]?) : w'.cell? ⟨b, o, none⟩ = some v := by
  rw [World.cell?_of_block (w := w) (a := ⟨b, o, none⟩) hb]; exact h
theorem q3j {w : World} {b o : Nat} {v : Value} (h : w.cell? ⟨b, o, none⟩ = some v) : b < w.heap.size := World.block_lt_of_cell? w ⟨b, o, none⟩ h
/-- All that there was stays as it was. -/
theorem ext_all {w w' : World} {M0 σ H} (hb : ∀ b, b < w.heap.size → w'.heap[b]? = w.heap[b]?) : Ext w (MU M0 σ H) σ (LV H) w' (MU M0 σ H) σ (LV H) :=
  ⟨fun b o v h1 h2 => ⟨q5r h1 (hb b (q3j h1)), h2⟩, fun id h => ⟨h, .inl rfl⟩⟩
theorem q4p {w w' : World} {base e sz n : Nat} {g cap : Nat} {xs : List Value} (h : w.ownsRow base e sz (.slice (some ⟨g, 0, none⟩) n cap) n xs) (hb : w'.heap[g]? = w.heap[g]?) : w'.ownsRow base e sz (.slice (some ⟨g, 0, none⟩) n cap) n xs := by
  obtain ⟨h1, h2⟩ := h
  refine ⟨h1, ?_⟩
  rcases h2 with ⟨h2, _⟩ | ⟨g', cap', cur, e1, h3, h4, h5⟩
  · cases h2
  · injection e1 with e1 _ e3
    injection e1 with e1
    injection e1 with e1
    subst e1; subst e3
    exact .inr ⟨g, cap, cur, rfl, h3, hb.trans h4, h5⟩
theorem HR.all {w w' : World} {M0 σ H} (h : HR w M0 σ H) (hs : w.heap.size ≤ w'.heap.size) (hb : ∀ b, b < w.heap.size → w'.heap[b]? = w.heap[b]?) : HR w' M0 σ H := by
  have E : Ext w (MU M0 σ H) σ (LV H) w' (MU M0 σ H) σ (LV H) := ext_all hb
  refine ⟨fun b o hm => Nat.lt_of_lt_of_le (h.m0 b o hm) hs, h.sep, h.inj, fun id l hl => ?_, fun id e sz els hl => ?_⟩
  · obtain ⟨h1, c, t, h2, hsh, h3⟩ := h.box id l hl
    exact ⟨h1, c, t, (hb _ (h.lt (by rw [hl]; simp))).trans h2, hsh, h3.mono E⟩
  · obtain ⟨h1, h2, h3, xs, h4, h5⟩ := h.row id e sz els hl
    exact ⟨h1, h2, h3, xs, q4p h4 (hb _ (h.lt (by rw [hl]; simp))), h5.mono E⟩
theorem Fr.all {w w' : World} {M0 σ H} (h : Below w.heap.size w w') : Fr w M0 σ H w' σ H :=
  ⟨h.os, h.tape, h.output, h.size, fun b hb _ => h.block b hb, fun id hid => .inr ⟨id, hid, rfl⟩, ext_all h.block⟩
end Go.Proofs.YtoibbedpaaeclaaGreat
end

section
namespace Go.Proofs.YtoibbedpaaeclaaGreat
open Go Go.RowKit
set_option linter.unusedVariables false
set_option linter.unusedSimpArgs false
def splice {α : Type} (l : List α) (off : Nat) (x : List α) : List α := l.take off ++ x ++ l.drop (off + x.length)
theorem q2v {α : Type} (l : List α) (off : Nat) (x : List α) (h : off + x.length ≤ l.length) : (splice l off x).length = l.length := by
  simp only [splice, List.length_append, List.length_take, List.length_drop]; omega
theorem x0a {α : Type} (l : List α) (off : Nat) (x : List α) (n : Nat) (h : off + x.length ≤ n) (hn : n ≤ l.length) : (splice l off x).take n = splice (l.take n) off x := by
  unfold splice
  rw [List.take_append, List.take_of_length_le (by rw [List.length_append, List.length_take]; omega), List.take_take, List.length_append, List.length_take, List.drop_take]
  congr 2
  · congr 1; omega
  · omega
theorem q4o {α : Type} (l : List α) (off : Nat) (x : List α) (h : off + x.length ≤ l.length) (i : Nat) :
    (splice l off x)[i]? = if off ≤ i ∧ i < off + x.length then x[i - off]? else l[i]? := by
  unfold splice
  have ht : (l.take off).length = off := by rw [List.length_take]; omega
  by_cases h1 : off ≤ i
  · by_cases h2 : i < off + x.length
    · rw [if_pos ⟨h1, h2⟩, List.append_assoc, List.getElem?_append_right (by omega), ht, List.getElem?_append_left (by omega)]
    · rw [if_neg (by omega), List.getElem?_append_right (by rw [List.length_append]; omega), List.length_append, ht, List.getElem?_drop]
      congr 1; omega
  · rw [if_neg (by omega), List.append_assoc, List.getElem?_append_left (by omega), List.getElem?_take, if_pos (by omega)]
theorem CR.splice {w M σ L} {cs : List Value} {l : List PV} {vs : List Value} {ps : List PV} (h : CR w M σ L cs l) (k : CR w M σ L vs ps) {off : Nat} (hf : off + ps.length ≤ l.length) : CR w M σ L (splice cs off vs) (splice l off ps) := by
  have hv : off + vs.length ≤ cs.length := by rw [k.len, h.len]; exact hf
  refine ⟨by rw [q2v _ _ _ hv, q2v _ _ _ hf, h.len], fun v hm => ?_, fun i v p hv' hp => ?_⟩
  · simp only [Go.Proofs.YtoibbedpaaeclaaGreat.splice, List.mem_append] at hm
    rcases hm with (hm | hm) | hm
    · exact h.one v (List.mem_of_mem_take hm)
    · exact k.one v hm
    · exact h.one v (List.mem_of_mem_drop hm)
  · rw [q4o _ _ _ hv] at hv'
    rw [q4o _ _ _ hf] at hp
    rw [k.len] at hv'
    split at hp
    · rename_i hc; rw [if_pos hc] at hv'; exact k.rel _ v p hv' hp
    · rename_i hc; rw [if_neg hc] at hv'; exact h.rel _ v p hv' hp
theorem CR.append {w M σ L} {cs : List Value} {l : List PV} {vs : List Value} {ps : List PV} (h : CR w M σ L cs l) (k : CR w M σ L vs ps) : CR w M σ L (cs ++ vs) (l ++ ps) := by
  refine ⟨by simp [h.len, k.len], fun v hm => ?_, fun i v p hv hp => ?_⟩
  · rcases List.mem_append.1 hm with hm | hm
    · exact h.one v hm
    · exact k.one v hm
  · by_cases hi : i < cs.length
    · rw [List.getElem?_append_left hi] at hv; rw [List.getElem?_append_left (by rw [← h.len]; exact hi)] at hp; exact h.rel i v p hv hp
    · rw [List.getElem?_append_right (by omega)] at hv; rw [List.getElem?_append_right (by rw [← h.len]; omega)] at hp
      rw [h.len] at hv
      exact k.rel _ v p hv hp
theorem ne_blk {w M0 σ H} (h : HR w M0 σ H) {i j : Nat} (hi : H i ≠ none) (hj : H j ≠ none) (hne : i ≠ j) : (σ i).blk ≠ (σ j).blk := fun e => hne (h.inj i j hi hj e)
section
variable {w : World} {M0 : Nat → Nat → Prop} {σ : Nat → Gh} {H : Heap}
theorem new_state (h : HR w M0 σ H) {w' : World} (hsz : w.heap.size ≤ w'.heap.size) (hbs : ∀ b, b < w.heap.size → w'.heap[b]? = w.heap[b]?) {m g : Nat} (hm : H m = none) (hg : w.heap.size ≤ g) (hg' : g < w'.heap.size) (x : HE) (gh : Gh) (hgh : gh.blk = g)
    (hx : ∀ b o, MU M0 (gset σ m gh) (hset H m (some x)) b o → MU M0 σ H b o ∨ b = g) :
    Ext w (MU M0 σ H) σ (LV H) w' (MU M0 (gset σ m gh) (hset H m (some x))) (gset σ m gh) (LV (hset H m (some x))) ∧
    (∀ id, hset H m (some x) id ≠ none → id = m ∨ (id ≠ m ∧ H id ≠ none)) := by
  refine ⟨⟨fun b o v h1 h2 => ⟨q5r h1 (hbs b (q3j h1)), fun hm' => ?_⟩, fun id hid => ?_⟩, fun id hid => ?_⟩
  · rcases hx b o hm' with h3 | h3
    · exact h2 h3
    · have := q3j h1; omega
  · have hne : id ≠ m := fun e => hid (by rw [e]; exact hm)
    exact ⟨by unfold LV; rw [q1b _ _ hne]; exact hid, .inl (q3x _ _ hne)⟩
  · by_cases e : id = m
    · exact .inl e
    · rw [q1b _ _ e] at hid; exact .inr ⟨e, hid⟩
theorem mu_new {m : Nat} (hm : H m = none) (x : HE) (gh : Gh) (b o : Nat) (h : MU M0 (gset σ m gh) (hset H m (some x)) b o) : MU M0 σ H b o ∨ b = gh.blk := by
  rcases h with h | ⟨id, l, h1, h2⟩ | ⟨id, e, sz, els, h1, h2, h3⟩
  · exact .inl (.inl h)
  · by_cases e : id = m
    · subst e; rw [q1c] at h2; exact .inr h2.symm
    · rw [q1b _ _ e] at h1; rw [q3x _ _ e] at h2; exact .inl (.inr (.inl ⟨id, l, h1, h2⟩))
  · by_cases e : id = m
    · subst e; rw [q1c] at h2; exact .inr h2.symm
    · rw [q1b _ _ e] at h1; rw [q3x _ _ e] at h2; exact .inl (.inr (.inr ⟨id, _, sz, els, h1, h2, h3⟩))
/-- A state with one more own block. -/
theorem HR.more (h : HR w M0 σ H) {w' : World} (hb : Below w.heap.size w w') {m : Nat} (hm : H m = none) (x : HE) (gh : Gh) (hg : w.heap.size ≤ gh.blk) (hg' : gh.blk < w'.heap.size)
    (hbox : ∀ l, x = .box l → gh.len = 0 ∧ ∃ (c : Array Value) (t : TypeId), w'.heap[gh.blk]? = some (.cells c t (0, 0)) ∧ Shp gh t c ∧ CR w (MU M0 σ H) σ (LV H) (c.toList.take l.length) l)
    (hrow : ∀ e sz els, x = .row e sz els → 0 < els.length ∧ gh.len = els.length ∧ (∀ y ∈ els, y.length = sz) ∧ ∃ xs, w'.ownsRow 0 e sz (.slice (some ⟨gh.blk, 0, none⟩) els.length gh.cap) els.length xs ∧ CR w (MU M0 σ H) σ (LV H) xs els.flatten) :
    HR w' M0 (gset σ m gh) (hset H m (some x)) ∧ Fr w M0 σ H w' (gset σ m gh) (hset H m (some x)) := by
  have hbs : ∀ b, b < w.heap.size → w'.heap[b]? = w.heap[b]? := hb.block
  obtain ⟨E, hid⟩ := new_state h hb.size hbs hm hg hg' x gh rfl (fun b o hmu => mu_new hm x gh b o hmu)
  refine ⟨⟨fun b o hm0 => Nat.lt_of_lt_of_le (h.m0 b o hm0) hb.size, fun id hne o hm0 => ?_, fun i j hi hj he => ?_, fun id l hl => ?_, fun id e sz els hl => ?_⟩, ⟨hb.os, hb.tape, hb.output, hb.size, fun b hlt _ => hbs b hlt, fun id hne => ?_, E⟩⟩
  · rcases hid id hne with rfl | ⟨e, hne⟩
    · rw [q1c] at hm0; have := h.m0 _ _ hm0; omega
    · rw [q3x _ _ e] at hm0; exact h.sep id hne o hm0
  · rcases hid i hi with e1 | ⟨e1, hi2⟩ <;> rcases hid j hj with e2 | ⟨e2, hj2⟩
    · rw [e1, e2]
    · rw [e1, q1c, q3x _ _ e2] at he; have := h.lt hj2; omega
    · rw [e2, q1c, q3x _ _ e1] at he; have := h.lt hi2; omega
    · rw [q3x _ _ e1, q3x _ _ e2] at he; exact h.inj i j hi2 hj2 he
  · by_cases e : id = m
    · subst e
      rw [q1m] at hl
      obtain ⟨h1, c, t, h2, hsh, h3⟩ := hbox l (Option.some.inj hl)
      rw [q1c]
      exact ⟨h1, c, t, h2, hsh, h3.mono E⟩
    · rw [q1b _ _ e] at hl
      obtain ⟨h1, c, t, h2, hsh, h3⟩ := h.box id l hl
      rw [q3x _ _ e]
      exact ⟨h1, c, t, (hbs _ (h.lt (by rw [hl]; simp))).trans h2, hsh, h3.mono E⟩
  · by_cases e : id = m
    · subst e
      rw [q1m] at hl
      obtain ⟨h1, h2, h3, xs, h4, h5⟩ := hrow _ sz els (Option.some.inj hl)
      rw [q1c]
      exact ⟨h1, h2, h3, xs, h4, h5.mono E⟩
    · rw [q1b _ _ e] at hl
      obtain ⟨h1, h2, h3, xs, h4, h5⟩ := h.row id _ sz els hl
      rw [q3x _ _ e]
      exact ⟨h1, h2, h3, xs, q4p h4 (hbs _ (h.lt (by rw [hl]; simp))), h5.mono E⟩
  · rcases hid id hne with rfl | ⟨e, hne⟩
    · rw [q1c]; exact .inl hg
    · rw [q3x _ _ e]; exact .inr ⟨id, hne, rfl⟩
theorem x1c (w : World) (o : Obj) : Below w.heap.size w (w.alloc o) := (Below.refl _ _).alloc (Nat.le_refl _) o
/-- A new box. -/
theorem HR.new (h : HR w M0 σ H) {m : Nat} (hm : H m = none) (c : Array Value) (t : TypeId) (l : List PV) (hc : CR w (MU M0 σ H) σ (LV H) c.toList l) (n sz : Nat) (hcs : c.size = n * sz) (hn : n ≤ maxLen) :
    HR (w.alloc (.cells c t)) M0 (gset σ m ⟨w.heap.size, n, 0, t, sz⟩) (hset H m (some (.box l))) ∧ Fr w M0 σ H (w.alloc (.cells c t)) (gset σ m ⟨w.heap.size, n, 0, t, sz⟩) (hset H m (some (.box l))) := by
  refine h.more (x1c w _) hm (.box l) ⟨w.heap.size, n, 0, t, sz⟩ (Nat.le_refl _) (by simp) (fun l' e => ?_) (fun e sz els e' => by cases e')
  cases e
  exact ⟨rfl, c, t, heap_alloc_new w _, ⟨rfl, hcs, hn⟩, by rw [← hc.len, List.take_length]; exact hc⟩
/-- What follows from a box that is written to. -/
theorem HR.put (h : HR w M0 σ H) {id : Nat} {l : List PV} (hid : H id = some (.box l)) {c : Array Value} {t : TypeId} (hc : w.heap[(σ id).blk]? = some (.cells c t (0, 0))) {l' : List PV} {c' : Array Value} (hl : l'.length = l.length) (hcz : c'.size = c.size)
    (hcr : CR w (MU M0 σ H) σ (LV H) (c'.toList.take l'.length) l') :
    HR (w.setRow (σ id).blk c') M0 σ (hset H id (some (.box l'))) ∧ Fr w M0 σ H (w.setRow (σ id).blk c') σ (hset H id (some (.box l'))) := by
  have hne : H id ≠ none := by rw [hid]; simp
  have hiff : ∀ i, hset H id (some (.box l')) i ≠ none ↔ H i ≠ none := fun i => by
    by_cases e : i = id
    · subst e; rw [q1m]; simp [hid]
    · rw [q1b _ _ e]
  have hmu : ∀ b o, MU M0 σ (hset H id (some (.box l'))) b o → MU M0 σ H b o := by
    rintro b o (h1 | ⟨i, l1, h1, h2⟩ | ⟨i, e, sz, els, h1, h2, h3⟩)
    · exact .inl h1
    · by_cases e : i = id
      · subst e; exact .inr (.inl ⟨i, l, hid, h2⟩)
      · rw [q1b _ _ e] at h1; exact .inr (.inl ⟨i, l1, h1, h2⟩)
    · by_cases e' : i = id
      · subst e'; rw [q1m] at h1; cases h1
      · rw [q1b _ _ e'] at h1; exact .inr (.inr ⟨i, e, sz, els, h1, h2, h3⟩)
  have E : Ext w (MU M0 σ H) σ (LV H) (w.setRow (σ id).blk c') (MU M0 σ (hset H id (some (.box l')))) σ (LV (hset H id (some (.box l')))) := by
    refine ⟨fun b o v h1 h2 => ⟨q5r h1 (setRow_other w _ _ _ (fun e => h2 ?_)), fun h3 => h2 (hmu b o h3)⟩, fun i hi => ⟨(hiff i).2 hi, .inl rfl⟩⟩
    subst e
    exact .inr (.inl ⟨id, l, hid, rfl⟩)
  refine ⟨⟨fun b o hm0 => by rw [setRow_size]; exact h.m0 b o hm0, fun i hi => h.sep i ((hiff i).1 hi), fun i j hi hj => h.inj i j ((hiff i).1 hi) ((hiff j).1 hj), fun i l1 hl1 => ?_, fun i e sz els hl1 => ?_⟩,
    ⟨rfl, rfl, rfl, by simp, fun b hb hn => setRow_other w _ _ _ (fun e => hn id hne e.symm), fun i hi => .inr ⟨i, (hiff i).1 hi, rfl⟩, E⟩⟩
  · by_cases e : i = id
    · subst e
      rw [q1m] at hl1
      cases hl1
      obtain ⟨g1, c0, t0, g2, g3, _⟩ := h.box i l hid
      have e0 := g2.symm.trans hc
      cases e0
      exact ⟨g1, c', t, setRow_heap w _ _ _ t _ hc, ⟨g3.1, hcz.trans g3.2.1, g3.2.2⟩, hcr.mono E⟩
    · rw [q1b _ _ e] at hl1
      obtain ⟨h1, c1, t1, h2, hsh, h3⟩ := h.box i l1 hl1
      exact ⟨h1, c1, t1, (setRow_other w _ _ _ (ne_blk h (by rw [hl1]; simp) hne e)).trans h2, hsh, h3.mono E⟩
  · by_cases e' : i = id
    · subst e'; rw [q1m] at hl1; cases hl1
    · rw [q1b _ _ e'] at hl1
      obtain ⟨h1, h2, h3, xs, h4, h5⟩ := h.row i e sz els hl1
      exact ⟨h1, h2, h3, xs, q4p h4 (setRow_other w _ _ _ (ne_blk h (by rw [hl1]; simp) hne e')), h5.mono E⟩
/-- A row that has grown, in place or in a new block. -/
theorem HR.grown (h : HR w M0 σ H) {id e sz : Nat} {els els' : List (List PV)} (hid : H id = some (.row e sz els)) {w' : World} {gh : Gh} (hgr : w.grownBy w' (some (σ id).blk)) (hlen : els.length < els'.length) (hgl : gh.len = els'.length) (hsz : ∀ x ∈ els', x.length = sz)
    (hg : gh.blk = (σ id).blk ∨ w.heap.size ≤ gh.blk) (hlow : ∀ o v, o < els.length * sz → w.cell? ⟨(σ id).blk, o, none⟩ = some v → w'.cell? ⟨(σ id).blk, o, none⟩ = some v)
    {xs : List Value} (ho : w'.ownsRow 0 e sz (.slice (some ⟨gh.blk, 0, none⟩) els'.length gh.cap) els'.length xs) (hcr : CR w (MU M0 σ H) σ (LV H) xs els'.flatten) :
    HR w' M0 (gset σ id gh) (hset H id (some (.row e sz els'))) ∧ Fr w M0 σ H w' (gset σ id gh) (hset H id (some (.row e sz els'))) := by
  have hne : H id ≠ none := by rw [hid]; simp
  obtain ⟨r1, r2, r3, xs0, r4, r5⟩ := h.row id e sz els hid
  have hbl := h.lt hne
  have hgl' : gh.blk < w'.heap.size := (ho.lt _ rfl).2
  have hiff : ∀ i, hset H id (some (.row e sz els')) i ≠ none ↔ H i ≠ none := fun i => by
    by_cases e' : i = id
    · subst e'; rw [q1m]; simp [hid]
    · rw [q1b _ _ e']
  have hcap : els.length * sz ≤ els'.length * sz := Nat.mul_le_mul_right _ (by omega)
  have hmu : ∀ b o, MU M0 (gset σ id gh) (hset H id (some (.row e sz els'))) b o → MU M0 σ H b o ∨ w.heap.size ≤ b := by
    rintro b o (h1 | ⟨i, l1, h1, h2⟩ | ⟨i, e1, sz1, els1, h1, h2, h3⟩)
    · exact .inl (.inl h1)
    · by_cases e' : i = id
      · subst e'; rw [q1m] at h1; cases h1
      · rw [q1b _ _ e'] at h1; rw [q3x _ _ e'] at h2; exact .inl (.inr (.inl ⟨i, l1, h1, h2⟩))
    · by_cases e' : i = id
      · subst e'
        rw [q1m] at h1; rw [q1c] at h2
        cases h1
        rcases hg with hg | hg
        · exact .inl (.inr (.inr ⟨i, e, sz, els, hid, by rw [← h2, hg], by omega⟩))
        · exact .inr (by omega)
      · rw [q1b _ _ e'] at h1; rw [q3x _ _ e'] at h2; exact .inl (.inr (.inr ⟨i, e1, sz1, els1, h1, h2, h3⟩))
  have E : Ext w (MU M0 σ H) σ (LV H) w' (MU M0 (gset σ id gh) (hset H id (some (.row e sz els')))) (gset σ id gh) (LV (hset H id (some (.row e sz els')))) := by
    refine ⟨fun b o v h1 h2 => ⟨?_, fun h3 => ?_⟩, fun i hi => ⟨(hiff i).2 hi, ?_⟩⟩
    · by_cases eb : b = (σ id).blk
      · subst eb
        refine hlow o v (Nat.lt_of_not_le fun hle => h2 ?_) h1
        exact .inr (.inr ⟨id, e, sz, els, hid, rfl, hle⟩)
      · exact q5r h1 (hgr.block b (q3j h1) (by simpa using eb))
    · rcases hmu b o h3 with h4 | h4
      · exact h2 h4
      · have := q3j h1; omega
    · by_cases e' : i = id
      · subst e'; rw [q1c]; exact .inr ⟨by omega, by omega⟩
      · exact .inl (q3x _ _ e')
  have hbo : ∀ i, i ≠ id → H i ≠ none → w'.heap[(σ i).blk]? = w.heap[(σ i).blk]? := fun i e' hi => hgr.block _ (h.lt hi) (by simpa using ne_blk h hi hne e')
  refine ⟨⟨fun b o hm0 => Nat.lt_of_lt_of_le (h.m0 b o hm0) hgr.size, fun i hi o hm0 => ?_, fun i j hi hj he => ?_, fun i l1 hl1 => ?_, fun i e1 sz1 els1 hl1 => ?_⟩,
    ⟨hgr.os, hgr.tape, hgr.output, hgr.size, fun b hb hn => hgr.block b hb (fun e' => hn id hne (Option.some.inj e').symm), fun i hi => ?_, E⟩⟩
  · by_cases e' : i = id
    · subst e'
      rw [q1c] at hm0
      rcases hg with hg | hg
      · rw [hg] at hm0; exact h.sep i hne o hm0
      · have := h.m0 _ _ hm0; omega
    · rw [q3x _ _ e'] at hm0; exact h.sep i ((hiff i).1 hi) o hm0
  · by_cases e1 : i = id <;> by_cases e2 : j = id
    · rw [e1, e2]
    · subst e1
      rw [q1c, q3x _ _ e2] at he
      have hj' := (hiff j).1 hj
      rcases hg with hg | hg
      · rw [hg] at he; exact h.inj i j hne hj' he
      · have := h.lt hj'; omega
    · subst e2
      rw [q1c, q3x _ _ e1] at he
      have hi' := (hiff i).1 hi
      rcases hg with hg | hg
      · rw [hg] at he; exact h.inj i j hi' hne he
      · have := h.lt hi'; omega
    · rw [q3x _ _ e1, q3x _ _ e2] at he; exact h.inj i j ((hiff i).1 hi) ((hiff j).1 hj) he
  · by_cases e' : i = id
    · subst e'; rw [q1m] at hl1; cases hl1
    · rw [q1b _ _ e'] at hl1
      obtain ⟨h1, c1, t1, h2, hsh, h3⟩ := h.box i l1 hl1
      rw [q3x _ _ e']
      exact ⟨h1, c1, t1, (hbo i e' (by rw [hl1]; simp)).trans h2, hsh, h3.mono E⟩
  · by_cases e' : i = id
    · subst e'
      rw [q1m] at hl1
      cases hl1
      rw [q1c]
      exact ⟨by omega, hgl, hsz, xs, ho, hcr.mono E⟩
    · rw [q1b _ _ e'] at hl1
      obtain ⟨h1, h2, h3, xs1, h4, h5⟩ := h.row i _ sz1 els1 hl1
      rw [q3x _ _ e']
      exact ⟨h1, h2, h3, xs1, q4p h4 (hbo i e' (by rw [hl1]; simp)), h5.mono E⟩
  · by_cases e' : i = id
    · subst e'
      rw [q1c]
      rcases hg with hg | hg
      · exact .inr ⟨i, hne, hg.symm⟩
      · exact .inl hg
    · rw [q3x _ _ e']; exact .inr ⟨i, (hiff i).1 hi, rfl⟩
end
end Go.Proofs.YtoibbedpaaeclaaGreat
end

section
namespace Go.Proofs.YtoibbedpaaeclaaGreat
open Go Go.RowKit
set_option linter.unusedVariables false
set_option linter.unusedSimpArgs false
abbrev Env := Nat → PV
def upd (e : Env) (d : Option Tmp) (v : PV) : Env := match d with | some d => fun t => if t = d then v else e t | none => e
def PV.cells? : PV → Option (List PV)
  | .agg l => some l
  | .any => none
  | .undef => none
  | .tup _ => none
  | .nilsl => none
  | .gr _ _ => none
  | .nilif => some [.nilif]
  | .nilfn => some [.nilfn]
  | .bool b => some [.bool b]
  | .int k n => some [.int k n]
  | .str s => some [.str s]
  | .sl els => some [.sl els]
  | .ref l => some [.ref l]
  | .ptr id off => some [.ptr id off]
  | .fn f a b => some [.fn f a b]
  | .ifc t v => some [.ifc t v]
  | .bs id n e sz => some [.bs id n e sz]
  | .bz => some [.bz]
  | .c0 => some [.c0]
def cv0 : Value → PV
  | .bool b => .bool b
  | .int k n => .int k n
  | .string s => .str s
  | .slice none 0 0 => .sl []
  | .nilIface => .nilif
  | .nilFunc => .nilfn
  | _ => .any
def cv : Value → PV
  | .agg cs => if cs.toList.all (·.oneCell') then .agg (cs.toList.map cv0) else .any
  | .bool b => .bool b
  | .int k n => .int k n
  | .string s => .str s
  | .slice none 0 0 => .nilsl
  | .nilIface => .nilif
  | .nilFunc => .nilfn
  | _ => .any
def rho (e : Env) : Operand → PV
  | .tmp t => e t
  | .const v => cv v
  | .global _ => .any
  | .func f => .fn (.func f) [] []
def strip (H : Heap) : PV → PV
  | .nilsl => .sl []
  | .gr id k => match H id with
    | some (.row _ _ els) => if els.length = k then .sl els else .any
    | _ => .any
  | p => p
inductive Eff where
  | nop
  | new (l : List PV)
  | put (id off : Nat) (l : List PV)
  | born (e sz : Nat) (els : List (List PV))
  | grow (id e sz : Nat) (els : List (List PV))
def Eff.app (m : Nat) (H : Heap) : Eff → Heap
  | .nop => H
  | .new l => hset H m (some (.box l))
  | .put id off x => match H id with
    | some (.box l) => hset H id (some (.box (splice l off x)))
    | _ => H
  | .born e sz els => hset H m (some (.row e sz els))
  | .grow id e sz els => hset H id (some (.row e sz els))
def Eff.cnt : Eff → Nat
  | .new _ => 1
  | .born _ _ _ => 1
  | _ => 0
def eqLeaf : PV → PV → Bool
  | .bool a, .bool b => a == b
  | .int _ a, .int _ b => a == b
  | _, _ => false
def eqL : List PV → List PV → Bool
  | [], [] => true
  | a :: l, b :: k => eqLeaf a b && eqL l k
  | _, _ => false
def eInt (op : BinOp) (k : IntKind) (a b : Int) : Option PV :=
  match op with
  | .add => some (.int k (k.wrap (a + b)))
  | .sub => some (.int k (k.wrap (a - b)))
  | .mul => some (.int k (k.wrap (a * b)))
  | .quo => if b = 0 then none else some (.int k (k.wrap (a.tdiv b)))
  | .rem => if b = 0 then none else some (.int k (a.tmod b))
  | .and => some (.int k (k.wrap (BitVec.ofInt k.bits a &&& BitVec.ofInt k.bits b).toNat))
  | .or => some (.int k (k.wrap (BitVec.ofInt k.bits a ||| BitVec.ofInt k.bits b).toNat))
  | .xor => some (.int k (k.wrap (BitVec.ofInt k.bits a ^^^ BitVec.ofInt k.bits b).toNat))
  | .andNot => some (.int k (k.wrap (BitVec.ofInt k.bits a &&& ~~~ BitVec.ofInt k.bits b).toNat))
  | .eql => some (.bool (a == b))
  | .neq => some (.bool (a != b))
  | .lss => some (.bool (decide (a < b)))
  | .leq => some (.bool (decide (a ≤ b)))
  | .gtr => some (.bool (decide (a > b)))
  | .geq => some (.bool (decide (a ≥ b)))
  | _ => none
def x0z (op : BinOp) (k : IntKind) (a b : Int) : Option PV :=
  if b < 0 then none else
  match op with
  | .shl => some (.int k (k.wrap (a * 2 ^ min b.toNat k.bits)))
  | .shr => some (.int k (a.fdiv (2 ^ min b.toNat k.bits)))
  | _ => none
section
variable (P : Program)
def aggT (t : TypeId) : Option Bool := (P.underlying t).map fun d => match d with | .struct _ => true | .array _ _ => true | _ => false
def ifcT (t : TypeId) : Option Bool := (P.underlying t).map fun d => match d with | .interface _ => true | _ => false
def cut (t : TypeId) (l : List PV) (off : Nat) : Option PV :=
  match aggT P t with
  | some true => if off + P.cellsOf t ≤ l.length then some (.agg ((l.drop off).take (P.cellsOf t))) else none
  | some false => l[off]?
  | none => none
/-- A type's cells when nothing has been said. -/
def zeros (t : TypeId) : Option (List PV) :=
  match P.info? t with
  | some i => match i.zero with
    | some z => if z.cells.toList.all (·.oneCell') then some (z.cells.toList.map cv0) else none
    | none => none
  | none => none
/-- An element type's cells and bytes. -/
def eInfo (e : TypeId) : Option (Nat × Nat) :=
  match P.info? e with
  | some i => match i.zero with
    | some z => if z.cells.size = i.size ∧ 0 < i.size then some (i.size, i.bytes) else none
    | none => none
  | none => none
def q1p (t : TypeId) (f : Nat) : Option (TypeId × Nat) :=
  match P.underlying t with
  | some (.struct fs) => match fs[f]? with
    | some fd => if (aggT P fd.type).isSome ∧ 0 < P.cellsOf fd.type then some (fd.type, fd.offset) else none
    | none => none
  | _ => none
/-- The leaves of a value that is compared. -/
def pl : Nat → TypeId → List PV → Option (List PV)
  | 0, _, _ => none
  | d + 1, t, cs =>
    match P.underlying t with
    | some .bool => match cs with
      | [.bool b] => some [.bool b]
      | _ => none
    | some (.int q) => match cs with
      | [.int k n] => if k = q then some [.int k n] else none
      | _ => none
    | some (.array n e) => if cs.length = P.cellsOf t ∧ 0 < n then ((List.range n).mapM fun i => pl d e ((cs.drop (i * P.cellsOf e)).take (P.cellsOf e))).map List.flatten else none
    | some (.struct fs) => if cs.length = P.cellsOf t ∧ fs.all (·.name != "_") = true ∧ P.stoodInHeld t = false then (fs.toList.mapM fun f => pl d f.type ((cs.drop f.offset).take (P.cellsOf f.type))).map List.flatten else none
    | _ => none
def q3f (op : BinOp) (t : TypeId) : PV → PV → Option PV
  | .int k a, .int k' b => match op with
    | .shl => x0z .shl k a b
    | .shr => x0z .shr k a b
    | op => if k = k' then eInt op k a b else none
  | .bool a, .bool b => match P.underlying t with
    | some .bool => match op with
      | .eql => some (.bool (a == b))
      | .neq => some (.bool (!(a == b)))
      | _ => none
    | _ => none
  | .agg xs, .agg ys => if P.eqGuardType P.depth t = true ∨ aggT P t ≠ some true then none else
    match pl P 20 t xs, pl P 20 t ys with
    | some a, some b => match op with
      | .eql => some (.bool (eqL a b))
      | .neq => some (.bool (!(eqL a b)))
      | _ => none
    | _, _ => none
  | .ifc _ _, .nilif => if ifcT P t = some true then match op with
      | .eql => some (.bool false)
      | .neq => some (.bool true)
      | _ => none
    else none
  | _, _ => none
def pfill (place : Nat → Option (Nat × Nat)) (cells : List PV) : List (Nat × PV) → Option (List PV)
  | [] => some cells
  | (i, p) :: rest => match place i with
    | some (off, size) => match p.cells? with
      | some l => if l.length = size ∧ off + l.length ≤ cells.length then pfill place (splice cells off l) rest else none
      | none => none
    | none => none
def chunks (sz : Nat) : Nat → List PV → List (List PV)
  | 0, _ => []
  | n + 1, l => l.take sz :: chunks sz n (l.drop sz)
def q3z (t : TypeId) (parts : List (Nat × PV)) : Option PV :=
  match zeros P t with
  | some z => match P.underlying t with
    | some (.struct fs) => if fs.all (fun f => (P.info? f.type).isSome) then (pfill (fun i => (fs[i]?).map fun f => (f.offset, P.cellsOf f.type)) z parts).map .agg else none
    | some (.array _ e) => if (P.info? e).isSome then (pfill (fun i => some (i * P.cellsOf e, P.cellsOf e)) z parts).map .agg else none
    | _ => none
  | none => none
def q2r (t : TypeId) (n : Nat) (parts : List (Nat × PV)) : Option PV :=
  match P.underlying t with
  | some (.slice e) => match n with
    | 0 => match parts with
      | [] => if (P.info? e).isSome = true then some .nilsl else none
      | _ => none
    | n + 1 => match eInfo P e, zeros P e with
      | some (sz, _), some z => if (n + 1) * sz ≤ 16777216 then (pfill (fun i => some (i * sz, sz)) (List.replicate (n + 1) z).flatten parts).map fun l => .sl (chunks sz (n + 1) l) else none
      | _, _ => none
  | _ => none
def q4d (x : PV) (y : PV) (H : Heap) (m : Nat) (t t' : TypeId) : Option (PV × Eff) :=
  match P.underlying t with
  | some (.slice e) => match P.underlying t' with
    | some (.slice _) => match eInfo P e with
      | some (sz, by_) => match y with
        | .sl ys => if ys.all (fun r => r.length == sz) = true then
            match x with
            | .nilsl => match ys with
              | [] => some (.nilsl, .nop)
              | _ :: _ => if ys.length * by_ ≤ 140737488355328 ∧ ys.length ≤ maxLen then some (.gr m ys.length, .born e sz ys) else none
            | .gr id k => match H id with
              | some (.row e0 sz0 els) => if els.length = k ∧ e0 = e ∧ sz0 = sz then
                  match ys with
                  | [] => some (.gr id k, .nop)
                  | _ :: _ => if (k + ys.length) * by_ ≤ 140737488355328 ∧ k + ys.length ≤ maxLen then some (.gr id (k + ys.length), .grow id e sz (els ++ ys)) else none
                else none
              | _ => none
            | _ => none
          else none
        | _ => none
      | none => none
    | _ => none
  | _ => none
def evSlice (t : TypeId) (x : PV) (lo hi : Option PV) : Option PV :=
  match P.underlying t with
  | some (.slice e) => if (P.info? e).isSome then match x with
    | .sl els =>
      match (match hi with | some (.int _ n) => (if 0 ≤ n ∧ n ≤ els.length then some n.toNat else none) | some _ => none | none => some els.length) with
      | some h => match (match lo with | some (.int _ n) => (if 0 ≤ n ∧ n ≤ (h : Int) then some n.toNat else none) | some _ => none | none => some 0) with
        | some l => if ((els[l]?).all fun c => c.length == P.cellsOf e) = true then some (.sl ((els.take h).drop l)) else none
        | none => none
      | none => none
    | _ => none
    else none
  | _ => none
def q8b (t : TypeId) (x i : PV) : Option PV :=
  match i with
  | .int _ n => match P.underlying t with
    | some (.slice e) => match x with
      | .sl els => if 0 ≤ n then match els[n.toNat]? with
          | some c => if c.length = P.cellsOf e ∧ (P.info? e).isSome = true then some (.ref c) else none
          | none => none
        else none
      | .bs id k _ _ => if 0 ≤ n ∧ n < k ∧ (P.info? e).isSome = true then some (.ptr id (n.toNat * P.cellsOf e)) else none
      | _ => none
    | some (.array len e) => if 0 ≤ n ∧ n < len ∧ (P.info? e).isSome = true then match x with
        | .ptr id off => some (.ptr id (off + n.toNat * P.cellsOf e))
        | .ref l => some (.ref (l.drop (n.toNat * P.cellsOf e)))
        | _ => none
      else none
    | _ => none
  | _ => none
def evMake (t : TypeId) (x y : PV) : Option PV :=
  match P.underlying t with
  | some (.slice e) => match eInfo P e, zeros P e with
    | some (_, by_), some z => match x with
      | .int _ a => match y with
        | .int _ b => if a = b ∧ 0 ≤ a ∧ (by_ : Int) * a ≤ 281474976710656 ∧ a ≤ 9223372036854775807 then some (.sl (List.replicate a.toNat z)) else none
        | _ => none
      | _ => none
    | _, _ => none
  | _ => none
def evIndex (t : TypeId) (x i : PV) : Option PV :=
  match i with
  | .int _ n => match P.underlying t with
    | some (.array len e) => match x with
      | .agg l => if 0 ≤ n ∧ n < len ∧ (P.info? e).isSome = true then cut P e l (n.toNat * P.cellsOf e) else none
      | _ => none
    | _ => none
  | _ => none
def evMin : PV → PV → Option PV
  | .int k a, .int k' b => if k = k' then some (.int k (if b < a then b else a)) else none
  | _, _ => none
def evMax : PV → PV → Option PV
  | .int k a, .int k' b => if k = k' then some (.int k (if b > a then b else a)) else none
  | _, _ => none
def evLen (t : TypeId) (x : PV) : Option PV :=
  match P.underlying t with
  | some (.slice _) => match x with
    | .sl els => some (.int .i64 els.length)
    | .bs _ n _ _ => some (.int .i64 n)
    | .bz => some (.int .i64 (0 : Nat))
    | _ => none
  | some (.array n _) => some (.int .i64 n)
  | _ => none
/-- The length of an own row, too. -/
def evLenG (t : TypeId) (H : Heap) (x y : PV) : Option PV :=
  match x with
  | .gr id k => match P.underlying t with
    | some (.slice _) => match H id with
      | some (.row _ _ els) => if els.length = k then some (.int .i64 els.length) else none
      | _ => none
    | _ => none
  | _ => evLen P t y
def evOp (ρ : Operand → PV) (s : PV → PV) (H : Heap) (m : Nat) (op : Op) : Option (PV × Eff) :=
  match op with
  | .move x => some (ρ x, .nop)
  | .assign x => some (ρ x, .nop)
  | .pick c a b => match ρ c with
    | .bool t => some (if t then ρ a else ρ b, .nop)
    | _ => none
  | .alloc t => match zeros P t with
    | some l => some (.ptr m 0, .new l)
    | none => none
  | .box t x => match (s (ρ x)).cells? with
    | some l => some (.ptr m 0, .new l)
    | none => none
  | .build t parts => (q3z P t (parts.toList.map fun (i, x) => (i, s (ρ x)))).map (·, .nop)
  | .buildSlice t n parts => (q2r P t n (parts.toList.map fun (i, x) => (i, s (ρ x)))).map (·, .nop)
  | .load t a => match ρ a with
    | .ref l => (cut P t l 0).map (·, .nop)
    | .ptr id off => match H id with
      | some (.box l) => (cut P t l off).map (·, .nop)
      | _ => none
    | _ => none
  | .store t a x => match ρ a with
    | .ptr id off => match (s (ρ x)).cells? with
      | some l => match H id with
        | some (.box c) => if l.length = P.cellsOf t ∧ (P.info? t).isSome = true ∧ off + l.length ≤ c.length then some (.undef, .put id off l) else none
        | _ => none
      | none => none
    | _ => none
  | .nilCheck x => match ρ x with
    | .ptr id off => some (.ptr id off, .nop)
    | .ref l => some (.ref l, .nop)
    | .fn (.func f) a b => some (.fn (.func f) a b, .nop)
    | _ => none
  | .binOp op t x y _ => (q3f P op t (ρ x) (ρ y)).map (·, .nop)
  | .unOp op _ x => match op with
    | .not => match ρ x with
      | .bool b => some (.bool (!b), .nop)
      | _ => none
    | .neg => match ρ x with
      | .int k n => some (.int k (k.wrap (0 - n)), .nop)
      | _ => none
    | .xor => match ρ x with
      | .int k n => (eInt .xor k (if k.signed then -1 else k.max) n).map (·, .nop)
      | _ => none
    | _ => none
  | .convert src dst x => match P.underlying src with
    | some _ => match P.underlying dst with
      | some (.int k) => match ρ x with
        | .int _ n => some (.int k (k.wrap n), .nop)
        | _ => none
      | _ => none
    | none => none
  | .makeInterface t x => match P.underlying t with
    | some (.interface _) => none
    | some _ => some (.ifc t (s (ρ x)), .nop)
    | none => none
  | .makeFunc fn first cap => some (.fn fn (first.toList.map fun x => s (ρ x)) (cap.toList.map fun x => s (ρ x)), .nop)
  | .makeSlice t x y => (evMake P t (ρ x) (ρ y)).map (·, .nop)
  | .slice t x lo hi none => (evSlice P t (s (ρ x)) (lo.map ρ) (hi.map ρ)).map (·, .nop)
  | .fieldAddr t x f => match q1p P t f with
    | some (_, o) => match ρ x with
      | .ptr id off => some (.ptr id (off + o), .nop)
      | .ref l => some (.ref (l.drop o), .nop)
      | _ => none
    | none => none
  | .field t x f => match q1p P t f with
    | some (ft, o) => match ρ x with
      | .agg l => (cut P ft l o).map (·, .nop)
      | _ => none
    | none => none
  | .indexAddr t x i => (q8b P t (s (ρ x)) (ρ i)).map (·, .nop)
  | .index t x i => (evIndex P t (ρ x) (ρ i)).map (·, .nop)
  | .extract x i => match ρ x with
    | .tup l => (l[i]?).map (·, .nop)
    | _ => none
  | .typeAssert x _ t true => match ρ x with
    | .ifc t' p => if ifcT P t = some false ∧ t' = t then some (.tup [p, .bool true], .nop) else none
    | _ => none
  | .call c => match c.callee with
    | .builtin .len => match c.args[0]?, c.argTypes[0]? with
      | some x, some t => if c.args.size = 1 then (evLenG P t H (ρ x) (s (ρ x))).map (·, .nop) else none
      | _, _ => none
    | .builtin .append => match c.args.toList, c.argTypes.toList with
      | [x, y], [t, t'] => q4d P (ρ x) (s (ρ y)) H m t t'
      | _, _ => none
    | .builtin .min => match c.args.toList with
      | [x, y] => (evMin (s (ρ x)) (s (ρ y))).map (·, .nop)
      | _ => none
    | .builtin .max => match c.args.toList with
      | [x, y] => (evMax (s (ρ x)) (s (ρ y))).map (·, .nop)
      | _ => none
    | _ => none
  | _ => none
/-- Is a type's zero the nil slice? -/
def nilz (t : TypeId) : Bool := match P.info? t with
  | some i => match i.zero with
    | some (.slice none 0 0) => true
    | _ => false
  | none => false
/-- The same, where what is made is to be written to; own rows in boxes. -/
def evBs (ρ : Operand → PV) (s : PV → PV) (H : Heap) (m : Nat) (op : Op) : Option (PV × Eff) :=
  match op with
  | .alloc t => if nilz P t = true then some (.ptr m 0, .new [.nilsl]) else none
  | .store t a x => match ρ a with
    | .ptr id off => match ρ x with
      | .gr j k => match H j with
        | some (.row _ _ els) => match H id with
          | some (.box c) => if els.length = k ∧ P.cellsOf t = 1 ∧ (P.info? t).isSome = true ∧ off + 1 ≤ c.length then some (.undef, .put id off [.gr j k]) else none
          | _ => none
        | _ => none
      | _ => none
    | _ => none
  | .makeSlice t x y => match P.underlying t with
    | some (.slice e) => match evMake P t (ρ x) (ρ y) with
      | some (.sl els) => some (.bs m els.length e (P.cellsOf e), .new els.flatten)
      | _ => none
    | _ => none
  | .buildSlice t n parts => match q2r P t n (parts.toList.map fun (i, x) => (i, s (ρ x))) with
    | some (.sl els) => match P.underlying t with
      | some (.slice e) => some (.bs m els.length e (P.cellsOf e), .new els.flatten)
      | _ => none
    | _ => none
  | .call c => match c.callee with
    | .builtin .append => match c.args.toList, c.argTypes.toList with
      | [x, y], [t, t'] => match ρ x with
        | .nilsl => match q4d P .nilsl (s (ρ y)) H m t t' with
          | some (.gr _ n, .born e sz ys) => some (.bs m n e sz, .new ys.flatten)
          | _ => none
        | _ => none
      | _, _ => none
    | .builtin .copy => match c.args.toList, c.argTypes.toList with
      | [x, y], [t, _] => match ρ x with
        | .bs id n _ _ => match P.underlying t with
          | some (.slice e) => match s (ρ y) with
            | .sl ys => match H id with
              | some (.box c) => if ys.all (fun r => r.length == P.cellsOf e) = true ∧ (P.info? e).isSome = true ∧ n * P.cellsOf e ≤ c.length then some (.int .i64 (min ys.length n : Nat), .put id 0 (ys.take (min ys.length n)).flatten) else none
              | _ => none
            | _ => none
          | _ => none
        | _ => none
      | _, _ => none
    | _ => none
  | _ => none
end
end Go.Proofs.YtoibbedpaaeclaaGreat
end

section
namespace Go.Proofs.YtoibbedpaaeclaaGreat
open Go Go.RowKit
set_option linter.unusedVariables false
set_option linter.unusedSimpArgs false
theorem q8p {w M σ L} {v : Value} {p : PV} {l : List PV} (h : VR w M σ L v p) (hc : p.cells? = some l) : CR w M σ L v.cells.toList l := by
  have single : ∀ {v : Value} {p : PV}, VR w M σ L v p → v.oneCell' = true → (∀ cs, v ≠ .agg cs) → CR w M σ L v.cells.toList [p] := by
    intro v p h h1 h2
    have : v.cells = #[v] := by cases v <;> first | rfl | exact absurd rfl (h2 _)
    rw [this]
    refine ⟨rfl, fun u hu => ?_, fun i u q hu hq => ?_⟩
    · simp at hu; subst hu; exact h1
    · cases i with
      | zero => simp at hu hq; subst hu; subst hq; exact h
      | succ i => simp at hu
  cases h with
  | agg cs l' hl h1 h => simp only [PV.cells?, Option.some.injEq] at hc; subst hc; exact ⟨by simpa [Value.cells] using hl, by simpa [Value.cells] using h1, by simpa [Value.cells] using h⟩
  | any => cases hc
  | undef => cases hc
  | nilsl => cases hc
  | tup => cases hc
  | gr => cases hc
  | nilif => cases hc; exact single .nilif rfl (by simp)
  | nilfn => cases hc; exact single .nilfn rfl (by simp)
  | bool b => cases hc; exact single (.bool b) rfl (by simp)
  | int k n => cases hc; exact single (.int k n) rfl (by simp)
  | str s => cases hc; exact single (.str s) rfl (by simp)
  | sl0 A cap => cases hc; exact single (.sl0 A cap) rfl (by simp)
  | sl b o sz cap els h1 h2 f h3 h4 => cases hc; exact single (.sl b o sz cap els h1 h2 f h3 h4) rfl (by simp)
  | ref b o l' f h1 h2 => cases hc; exact single (.ref b o l' f h1 h2) rfl (by simp)
  | ptr id off h1 h2 => cases hc; exact single (.ptr id off h1 h2) rfl (by simp)
  | fn f fs cs l1 l2 h1 h2 h3 h4 => cases hc; exact single (.fn f fs cs l1 l2 h1 h2 h3 h4) rfl (by simp)
  | ifc t v p h => cases hc; exact single (.ifc t v p h) rfl (by simp)
  | bs id n e sz h1 h2 h3 h4 h5 => cases hc; exact single (.bs id n e sz h1 h2 h3 h4 h5) rfl (by simp)
  | bz => cases hc; exact single .bz rfl (by simp)
  | c0 A => cases hc; exact single (.c0 A) rfl (by simp)
theorem vr_cv0 {w M σ L} (v : Value) : VR w M σ L v (cv0 v) := by
  unfold cv0
  split
  · exact .bool _
  · exact .int _ _
  · exact .str _
  · exact .sl0 _ _
  · exact .nilif
  · exact .nilfn
  · exact .any _
theorem cr_cv0 {w M σ L} (cs : List Value) (h : cs.all (·.oneCell') = true) : CR w M σ L cs (cs.map cv0) :=
  ⟨by simp, fun v hv => List.all_eq_true.1 h v hv, fun i v p hv hp => by
    rw [List.getElem?_map, hv] at hp; simp at hp; subst hp; exact vr_cv0 v⟩
theorem vr_agg {w M σ L} {cs : Array Value} {l : List PV} (h : CR w M σ L cs.toList l) : VR w M σ L (.agg cs) (.agg l) := by
  have := VR.agg cs.toList l h.len h.one h.rel
  simpa using this
theorem vr_cv {w M σ L} (v : Value) : VR w M σ L v (cv v) := by
  unfold cv
  split
  · split
    · rename_i h; exact vr_agg (cr_cv0 _ h)
    · exact .any _
  · exact .bool _
  · exact .int _ _
  · exact .str _
  · exact .nilsl _
  · exact .nilif
  · exact .nilfn
  · exact .any _
theorem CR.cut {w M σ L cs l} (h : CR w M σ L cs l) (off n : Nat) : CR w M σ L ((cs.drop off).take n) ((l.drop off).take n) := by
  refine ⟨by simp [h.len], fun v hv => h.one v (List.mem_of_mem_drop (List.mem_of_mem_take hv)), fun i v p hv hp => ?_⟩
  rw [List.getElem?_take] at hv hp
  split at hv
  · rename_i hi
    rw [if_pos hi] at hp
    rw [List.getElem?_drop] at hv hp
    exact h.rel _ v p hv hp
  · cases hv
theorem CR.get {w M σ L cs l} (h : CR w M σ L cs l) {i : Nat} {p : PV} (hp : l[i]? = some p) : ∃ v, cs[i]? = some v ∧ VR w M σ L v p ∧ v.oneCell' = true := by
  have hi : i < cs.length := by rw [h.len]; exact (List.getElem?_eq_some_iff.1 hp).1
  exact ⟨cs[i], List.getElem?_eq_getElem hi, h.rel i _ p (List.getElem?_eq_getElem hi) hp, h.one _ (List.getElem_mem hi)⟩
section
variable {P : Program} {w : World}
theorem info_of {t : TypeId} {b : Bool} (h : aggT P t = some b) : ∃ i, P.info? t = some i ∧ P.cellsOf t = i.size ∧ ∃ d, P.underlying t = some d ∧ (match d with | .struct _ => true | .array _ _ => true | _ => false) = b := by
  unfold aggT at h
  rw [Option.map_eq_some_iff] at h
  obtain ⟨d, hd, hb⟩ := h
  obtain ⟨i, hi⟩ := info_of_underlying hd
  exact ⟨i, hi, by simp [Program.cellsOf, hi], d, hd, hb⟩
theorem q6d {t : TypeId} {b : Bool} (h : aggT P t = some b) (w : World) : (isAgg t).run P w = .ok b w := by
  obtain ⟨i, hi, _, d, hd, hb⟩ := info_of h
  unfold isAgg
  rw [Sem.run_bind, run_underlying hd]
  subst hb
  cases d <;> rfl
theorem part_sound {M σ L} {cs : List Value} {l : List PV} (h : CR w M σ L cs l) {t : TypeId} {off : Nat} {r : PV} (hc : cut P t l off = some r) : ∃ v, (part t cs.toArray off).run P w = .ok v w ∧ VR w M σ L v r ∧ (r.cells?.isSome = true → True) := by
  unfold Go.Proofs.YtoibbedpaaeclaaGreat.cut at hc
  split at hc
  · rename_i ha
    split at hc
    · rename_i hlen
      cases hc
      obtain ⟨i, hi, hs, _⟩ := info_of ha
      refine ⟨.agg (cs.toArray.extract off (off + P.cellsOf t)), ?_, ?_, fun _ => trivial⟩
      · unfold part
        rw [Sem.run_bind, q6d ha]
        simp only [Result.andThen_ok, if_true, Sem.run_bind, run_sizeOf w hi]
        rfl
      · refine vr_agg ?_
        have : (cs.toArray.extract off (off + P.cellsOf t)).toList = (cs.drop off).take (P.cellsOf t) := by simp [List.extract]
        rw [this]; exact h.cut _ _
    · cases hc
  · rename_i ha
    obtain ⟨v, hv, hr, _⟩ := h.get hc
    refine ⟨v, ?_, hr, fun _ => trivial⟩
    unfold part
    rw [Sem.run_bind, q6d ha]
    simp [hv]
  · cases hc
theorem load_sound {M σ L} {b o : Nat} {cs : List Value} {l : List PV} (hrd : ∀ j v, cs[j]? = some v → w.cell? ⟨b, o + j, none⟩ = some v) (h : CR w M σ L cs l) {t : TypeId} {off : Nat} {r : PV} (hc : cut P t l off = some r) :
    ∃ v, (loadVar t ⟨b, o + off, none⟩).run P w = .ok v w ∧ VR w M σ L v r := by
  unfold Go.Proofs.YtoibbedpaaeclaaGreat.cut at hc
  split at hc
  · rename_i ha
    split at hc
    · rename_i hlen
      cases hc
      obtain ⟨i, hi, hs, _⟩ := info_of ha
      have hl : ((cs.drop off).take (P.cellsOf t)).length = P.cellsOf t := by
        rw [List.length_take, List.length_drop, h.len]; omega
      have hrun := run_loadCells_list (P := P) w ⟨b, o + off, none⟩ ((cs.drop off).take (P.cellsOf t)) (fun j v hv => by
        rw [List.getElem?_take] at hv
        split at hv
        · rw [List.getElem?_drop] at hv
          rw [Addr.add_lit, Nat.add_assoc]
          exact hrd _ v hv
        · cases hv)
      rw [hl] at hrun
      refine ⟨.agg ((cs.drop off).take (P.cellsOf t)).toArray, ?_, ?_⟩
      · unfold loadVar
        rw [Sem.run_bind, q6d ha]
        simp only [Result.andThen_ok, if_true, Sem.run_bind, run_sizeOf w hi, hrun]
        rfl
      · exact vr_agg (by simpa using h.cut _ _)
    · cases hc
  · rename_i ha
    obtain ⟨v, hv, hr, _⟩ := h.get hc
    refine ⟨v, ?_, hr⟩
    unfold loadVar
    rw [Sem.run_bind, q6d ha]
    simp only [Result.andThen_ok, Bool.false_eq_true, if_false, run_load, hrd _ v hv]
  · cases hc
theorem foldl_set (cells : List Value) (off : Nat) : ∀ (vs : List Value) (k : Nat), off + k + vs.length ≤ cells.length →
    ((vs.zipIdx k).foldl (fun (cs : Array Value) (x : Value × Nat) => cs.setIfInBounds (off + x.2) x.1) cells.toArray) = (splice cells (off + k) vs).toArray
  | [], k, h => by simp [splice]
  | v :: vs, k, h => by
    simp only [List.zipIdx_cons, List.foldl_cons]
    have h0 : off + k < cells.length := by simp at h; omega
    have ih := foldl_set (cells.set (off + k) v) off vs (k + 1) (by simp at h ⊢; omega)
    have e : cells.toArray.setIfInBounds (off + k) v = (cells.set (off + k) v).toArray := by simp
    rw [e, ih]
    congr 1
    unfold splice
    apply List.ext_getElem?
    intro i
    have h1 : (splice (cells.set (off + k) v) (off + (k + 1)) vs)[i]? = (splice cells (off + k) (v :: vs))[i]? := by
      rw [q4o _ _ _ (by simp at h ⊢; omega), q4o _ _ _ (by simpa using h)]
      by_cases c1 : off + (k + 1) ≤ i ∧ i < off + (k + 1) + vs.length
      · rw [if_pos c1, if_pos (by simp; omega)]
        rw [show i - (off + k) = (i - (off + (k + 1))) + 1 by omega, List.getElem?_cons_succ]
      · rw [if_neg c1]
        by_cases c2 : i = off + k
        · subst c2
          rw [if_pos (by simp)]
          simp [h0]
        · rw [if_neg (by simp; omega), List.getElem?_set_ne (Ne.symm c2)]
    exact h1
theorem q7p {M σ L} {place place' : Nat → Option (Nat × Nat)} (hpl : ∀ i x, place i = some x → place' i = some x) : ∀ (vs : List (Nat × Value)) (ps : List (Nat × PV)) (cs : List Value) (l l' : List PV),
    vs.length = ps.length → (∀ (i : Nat) (x : Nat × Value) (y : Nat × PV), vs[i]? = some x → ps[i]? = some y → x.1 = y.1 ∧ VR w M σ L x.2 y.2) → CR w M σ L cs l → pfill place l ps = some l' → ∃ cs', Instr.fill place' cs.toArray vs = some cs'.toArray ∧ CR w M σ L cs' l'
  | [], [], cs, l, l', _, _, h, hf => by simp only [pfill, Option.some.injEq] at hf; subst hf; exact ⟨cs, rfl, h⟩
  | [], _ :: _, _, _, _, hl, _, _, _ => by simp at hl
  | _ :: _, [], _, _, _, hl, _, _, _ => by simp at hl
  | (i, v) :: vs, (j, p) :: ps, cs, l, l', hl, hr, h, hf => by
    obtain ⟨e1, hv⟩ := hr 0 (i, v) (j, p) rfl rfl
    simp only at e1 hv
    subst e1
    simp only [pfill] at hf
    split at hf
    · rename_i off size hp
      split at hf
      · rename_i lc hlc
        split at hf
        · rename_i hcond
          have hcr := q8p hv hlc
          have hsz : v.cells.size = size := by rw [← Array.length_toList, hcr.len]; exact hcond.1
          have hfit : off + v.cells.toList.length ≤ cs.length := by rw [hcr.len, h.len]; exact hcond.2
          obtain ⟨cs', h1, h2⟩ := q7p hpl vs ps (splice cs off v.cells.toList) (splice l off lc) l' (by simpa using hl) (fun i x y hx hy => hr (i + 1) x y (by simpa using hx) (by simpa using hy)) (h.splice hcr hcond.2) hf
          refine ⟨cs', ?_, h2⟩
          simp only [Instr.fill, hpl _ _ hp]
          have hsz' : off + v.cells.size ≤ cs.length := by rw [← Array.length_toList]; exact hfit
          rw [if_neg (by simp only [List.size_toArray, Bool.or_eq_true, decide_eq_true_eq, not_or, Decidable.not_not]; exact ⟨hsz, by omega⟩)]
          have := foldl_set cs off v.cells.toList 0 (by simpa using hfit)
          simp only [Nat.add_zero] at this
          rw [← h1, ← this]
          congr 1
          rw [← Array.foldl_toList]
          simp
        · cases hf
      · cases hf
    · cases hf
end
end Go.Proofs.YtoibbedpaaeclaaGreat
end

section
namespace Go.Proofs.YtoibbedpaaeclaaGreat
open Go Go.RowKit
set_option linter.unusedVariables false
set_option linter.unusedSimpArgs false
theorem eqL_append {a b c d : List PV} (h : a.length = b.length) : eqL (a ++ c) (b ++ d) = (eqL a b && eqL c d) := by
  induction a generalizing b with
  | nil => cases b with
    | nil => simp [eqL]
    | cons _ _ => simp at h
  | cons x a ih => cases b with
    | nil => simp at h
    | cons y b => simp only [List.cons_append, eqL, ih (by simpa using h), Bool.and_assoc]
def fits (P : Program) (t : TypeId) (x : Value) (cs : List Value) : Prop :=
  match P.underlying t with
  | some (.struct _) => x = .agg cs.toArray
  | some (.array _ _) => x = .agg cs.toArray
  | _ => cs = [x]
section
variable {P : Program} {w : World} {M : Nat → Nat → Prop} {σ : Nat → Gh} {L : Nat → Prop}
theorem chunk_get {cs : List Value} {off n : Nat} {v : Value} (h : (cs.drop off).take n = [v]) : cs[off]? = some v := by
  have : ((cs.drop off).take n)[0]? = some v := by rw [h]; rfl
  rw [List.getElem?_take] at this
  split at this
  · simpa using this
  · cases this
theorem x0q {cs : List Value} {l : List PV} (h : CR w M σ L cs l) {d : Nat} {t : TypeId} {off : Nat} {a : List PV} (hp : pl P d t ((l.drop off).take (P.cellsOf t)) = some a) :
    ∃ v, (part t cs.toArray off).run P w = .ok v w ∧ fits P t v ((cs.drop off).take (P.cellsOf t)) := by
  cases d with
  | zero => simp [pl] at hp
  | succ d =>
    cases hu : P.underlying t with
    | none => simp [pl, hu] at hp
    | some k =>
      obtain ⟨i, hi⟩ := info_of_underlying hu
      have hl := (h.cut off (P.cellsOf t)).len
      have one : ((∃ x, (l.drop off).take (P.cellsOf t) = [x]) ∧ aggT P t = some false) → fits P t = (fun v cs => cs = [v]) → ∃ v, (part t cs.toArray off).run P w = .ok v w ∧ fits P t v ((cs.drop off).take (P.cellsOf t)) := by
        rintro ⟨⟨x, hx⟩, ha⟩ hf
        rw [hx] at hl
        obtain ⟨v, hv⟩ := List.length_eq_one_iff.1 hl
        refine ⟨v, ?_, by rw [hf]; exact hv⟩
        unfold part
        rw [Sem.run_bind, q6d ha]
        simp [chunk_get hv]
      have many : aggT P t = some true → fits P t = (fun v cs => v = .agg cs.toArray) → ∃ v, (part t cs.toArray off).run P w = .ok v w ∧ fits P t v ((cs.drop off).take (P.cellsOf t)) := by
        intro ha hf
        refine ⟨.agg (cs.toArray.extract off (off + P.cellsOf t)), ?_, ?_⟩
        · unfold part
          rw [Sem.run_bind, q6d ha]
          simp only [Result.andThen_ok, if_true, Sem.run_bind, run_sizeOf w hi]
          rfl
        · rw [hf]
          simp [List.extract]
      cases k with
      | bool => refine one ⟨?_, by simp [aggT, hu]⟩ (by unfold fits; simp [hu]); simp only [pl, hu] at hp; split at hp; rename_i b hb; exact ⟨_, hb⟩; cases hp
      | int q => refine one ⟨?_, by simp [aggT, hu]⟩ (by unfold fits; simp [hu]); simp only [pl, hu] at hp; split at hp; rename_i b hb; exact ⟨_, hb⟩; cases hp
      | struct fs => exact many (by simp [aggT, hu]) (by unfold fits; simp [hu])
      | array n e => exact many (by simp [aggT, hu]) (by unfold fits; simp [hu])
      | _ => simp [pl, hu] at hp
def EqOk (P : Program) (w : World) (M : Nat → Nat → Prop) (σ : Nat → Gh) (L : Nat → Prop) (D d : Nat) (t : TypeId) : Prop :=
  ∀ (cs cs' : List Value) (l l' a b : List PV) (x y : Value), CR w M σ L cs l → CR w M σ L cs' l' → pl P d t l = some a → pl P d t l' = some b → fits P t x cs → fits P t y cs' → (Op.equalIn D t x y).run P w = .ok (eqL a b) w ∧ a.length = b.length
theorem eqFields_ok {D d : Nat} {cs cs' : List Value} {l l' : List PV} (h : CR w M σ L cs l) (h' : CR w M σ L cs' l') : ∀ (fs : List Field) (as bs : List (List PV)), (∀ f ∈ fs, f.name ≠ "_" ∧ EqOk P w M σ L D d f.type) →
    fs.mapM (fun f => pl P d f.type ((l.drop f.offset).take (P.cellsOf f.type))) = some as → fs.mapM (fun f => pl P d f.type ((l'.drop f.offset).take (P.cellsOf f.type))) = some bs →
    (Op.eqFields D cs.toArray cs'.toArray fs).run P w = .ok (eqL as.flatten bs.flatten) w ∧ as.flatten.length = bs.flatten.length
  | [], as, bs, _, ha, hb => by
    simp at ha hb
    subst ha; subst hb
    exact ⟨by simp [Op.eqFields, eqL], rfl⟩
  | f :: fs, as, bs, hall, ha, hb => by
    rw [List.mapM_cons] at ha hb
    simp only [bind, Option.bind_eq_some_iff, pure, Option.some.injEq] at ha hb
    obtain ⟨la, ha1, as', ha2, rfl⟩ := ha
    obtain ⟨lb, hb1, bs', hb2, rfl⟩ := hb
    obtain ⟨hn, hp⟩ := hall f (by simp)
    obtain ⟨x, p1, f1⟩ := x0q h ha1
    obtain ⟨y, p2, f2⟩ := x0q h' hb1
    obtain ⟨p3, hlen⟩ := hp _ _ _ _ la lb x y (h.cut _ _) (h'.cut _ _) ha1 hb1 f1 f2
    obtain ⟨p4, hlen'⟩ := eqFields_ok h h' fs as' bs' (fun g hg => hall g (by simp [hg])) ha2 hb2
    refine ⟨?_, by simp only [List.flatten_cons, List.length_append, hlen, hlen']⟩
    simp only [Op.eqFields, hn, ne_eq, not_false_eq_true, if_true, Sem.run_bind, p1, p2, p3, Result.andThen_ok, List.flatten_cons, eqL_append hlen]
    cases eqL la lb
    · simp
    · simpa using p4
theorem eqItems_ok {D d : Nat} {e : TypeId} (IH : EqOk P w M σ L D d e) {cs cs' : List Value} {l l' : List PV} (h : CR w M σ L cs l) (h' : CR w M σ L cs' l') : ∀ (is : List Nat) (as bs : List (List PV)),
    is.mapM (fun i => pl P d e ((l.drop (i * P.cellsOf e)).take (P.cellsOf e))) = some as → is.mapM (fun i => pl P d e ((l'.drop (i * P.cellsOf e)).take (P.cellsOf e))) = some bs →
    (Op.eqItems D e (P.cellsOf e) cs.toArray cs'.toArray is).run P w = .ok (eqL as.flatten bs.flatten) w ∧ as.flatten.length = bs.flatten.length
  | [], as, bs, ha, hb => by
    simp at ha hb
    subst ha; subst hb
    exact ⟨by simp [Op.eqItems, eqL], rfl⟩
  | i :: is, as, bs, ha, hb => by
    rw [List.mapM_cons] at ha hb
    simp only [bind, Option.bind_eq_some_iff, pure, Option.some.injEq] at ha hb
    obtain ⟨la, ha1, as', ha2, rfl⟩ := ha
    obtain ⟨lb, hb1, bs', hb2, rfl⟩ := hb
    obtain ⟨x, p1, f1⟩ := x0q h ha1
    obtain ⟨y, p2, f2⟩ := x0q h' hb1
    obtain ⟨p3, hlen⟩ := IH _ _ _ _ la lb x y (h.cut _ _) (h'.cut _ _) ha1 hb1 f1 f2
    obtain ⟨p4, hlen'⟩ := eqItems_ok IH h h' is as' bs' ha2 hb2
    refine ⟨?_, by simp only [List.flatten_cons, List.length_append, hlen, hlen']⟩
    simp only [Op.eqItems, Sem.run_bind, p1, p2, p3, Result.andThen_ok, List.flatten_cons, eqL_append hlen]
    cases eqL la lb
    · simp
    · simpa using p4
theorem eq_ok (dd : Nat) : ∀ (d : Nat) (t : TypeId), EqOk P w M σ L (dd + d) d t
  | 0, t => fun cs cs' l l' a b x y _ _ h _ _ _ => by simp [pl] at h
  | d + 1, t => by
    intro cs cs' l l' a b x y h h' ha hb fx fy
    cases hu : P.underlying t with
    | none => simp [pl, hu] at ha
    | some k =>
      cases k with
      | bool =>
        simp only [pl, hu] at ha hb
        split at ha
        · split at hb
          · cases ha; cases hb
            simp only [fits, hu] at fx fy
            subst fx; subst fy
            have e1 := h.rel 0 x _ rfl rfl
            have e2 := h'.rel 0 y _ rfl rfl
            cases e1; cases e2
            exact ⟨by rw [show dd + (d + 1) = (dd + d) + 1 from rfl, run_equalIn_bool' (P := P) w _ t _ _ hu]; simp [eqL, eqLeaf], rfl⟩
          · cases hb
        · cases ha
      | int q =>
        simp only [pl, hu] at ha hb
        split at ha
        · split at hb
          · split at ha
            · split at hb
              · rename_i h1 h2
                cases ha; cases hb
                simp only [fits, hu] at fx fy
                subst fx; subst fy; subst h1; subst h2
                have e1 := h.rel 0 x _ rfl rfl
                have e2 := h'.rel 0 y _ rfl rfl
                cases e1; cases e2
                exact ⟨by rw [show dd + (d + 1) = (dd + d) + 1 from rfl, run_equalIn_int (P := P) w _ t _ _ _ _ hu]; simp [eqL, eqLeaf], rfl⟩
              · cases hb
            · cases ha
          · cases hb
        · cases ha
      | struct fs =>
        simp only [pl, hu] at ha hb
        split at ha
        · split at hb
          · rename_i c1 c2
            rw [Option.map_eq_some_iff] at ha hb
            obtain ⟨as, ha, rfl⟩ := ha
            obtain ⟨bs, hb, rfl⟩ := hb
            simp only [fits, hu] at fx fy
            subst fx; subst fy
            have hfs : P.fieldsOf t = fs := by simp [Program.fieldsOf, hu]
            obtain ⟨r1, r2⟩ := eqFields_ok (D := dd + d) h h' fs.toList as bs (fun f hf => ⟨by
              have := Array.all_eq_true_iff_forall_mem.1 c1.2.1 f (Array.mem_toList_iff.1 hf)
              simpa using this, eq_ok dd d f.type⟩) ha hb
            exact ⟨by rw [show dd + (d + 1) = (dd + d) + 1 from rfl, run_equalIn_struct w (dd + d) t _ _ (by rw [hfs]; exact hu) c1.2.2, hfs]; exact r1, r2⟩
          · cases hb
        · cases ha
      | array n e =>
        simp only [pl, hu] at ha hb
        split at ha
        · split at hb
          · rename_i c1 c2
            rw [Option.map_eq_some_iff] at ha hb
            obtain ⟨as, ha, rfl⟩ := ha
            obtain ⟨bs, hb, rfl⟩ := hb
            simp only [fits, hu] at fx fy
            subst fx; subst fy
            have hn : n ≠ 0 := by omega
            have hie : ∃ i, P.info? e = some i := by
              obtain ⟨m, rfl⟩ : ∃ m, n = m + 1 := ⟨n - 1, by omega⟩
              rw [List.range_succ_eq_map, List.mapM_cons] at ha
              simp only [bind, Option.bind_eq_some_iff, pure, Option.some.injEq] at ha
              obtain ⟨la, ha1, _⟩ := ha
              cases d with
              | zero => simp [pl] at ha1
              | succ d =>
                cases hue : P.underlying e with
                | none => simp [pl, hue] at ha1
                | some _ => exact info_of_underlying hue
            obtain ⟨i, hi⟩ := hie
            obtain ⟨r1, r2⟩ := eqItems_ok (eq_ok dd d e) h h' (List.range n) as bs ha hb
            exact ⟨by rw [show dd + (d + 1) = (dd + d) + 1 from rfl, run_equalIn_array w (dd + d) _ _ hu hi]; exact r1, r2⟩
          · cases hb
        · cases ha
      | _ => simp [pl, hu] at ha
end
end Go.Proofs.YtoibbedpaaeclaaGreat
end

section
namespace Go.Proofs.YtoibbedpaaeclaaGreat
open Go Go.RowKit
set_option linter.unusedVariables false
set_option linter.unusedSimpArgs false
/-- An operation has yielded v. -/
def Gave (n : Next) (v : Value) : Prop := n = .value v ∨ (n = .skip ∧ v = undef)
def OpOk (P : Program) (w : World) (M0 : Nat → Nat → Prop) (σ : Nat → Gh) (H : Heap) (m : Nat) (S : Sem Next) (r : PV) (e : Eff) : Prop :=
  ∃ n v w' σ', S.run P w = .ok n w' ∧ Gave n v ∧ VV w' M0 σ' (e.app m H) v r ∧ HR w' M0 σ' (e.app m H) ∧ Fr w M0 σ H w' σ' (e.app m H) ∧ (∀ i, H i ≠ none → i ≠ m ∨ H m ≠ none)
section
variable {P : Program} {w : World} {M0 : Nat → Nat → Prop} {σ : Nat → Gh} {H : Heap} {m : Nat}
theorem q5n {S : Sem Next} {r : PV} {e : Eff} {n : Next} {v : Value} {w' : World} {σ' : Nat → Gh} (hr : S.run P w = .ok n w') (hg : Gave n v) (hv : VV w' M0 σ' (e.app m H) v r) (hh : HR w' M0 σ' (e.app m H) ∧ Fr w M0 σ H w' σ' (e.app m H)) : OpOk P w M0 σ H m S r e := by
  refine ⟨n, v, w', σ', hr, hg, hv, hh.1, hh.2, fun i hi => ?_⟩
  by_cases e : i = m
  · exact .inr (e ▸ hi)
  · exact .inl e
theorem q2q (h : HR w M0 σ H) {S : Sem Next} {r : PV} {v : Value} (hr : S.run P w = .ok (.value v) w) (hv : VV w M0 σ H v r) : OpOk P w M0 σ H m S r .nop :=
  q5n (e := .nop) hr (.inl rfl) hv ⟨h, Fr.refl _ _ _ _⟩
theorem q5e {S : Sem Value} {v : Value} {w w' : World} (h : S.run P w = .ok v w') : (do pure (Next.value (← S)) : Sem Next).run P w = .ok (.value v) w' := by
  simp [Sem.run_bind, h]
theorem run_u {S : Sem Unit} {w w' : World} (h : S.run P w = .ok () w') : (do S; pure Next.skip : Sem Next).run P w = .ok .skip w' := by
  simp [Sem.run_bind, h]
/-- A row of the call's own is read. -/
theorem row_sl (h : HR w M0 σ H) {id e sz : Nat} {els : List (List PV)} (hid : H id = some (.row e sz els)) : VV w M0 σ H (.slice (some ⟨(σ id).blk, 0, none⟩) els.length (σ id).cap) (.sl els) := by
  obtain ⟨r1, r2, r3, xs, r4, r5⟩ := h.row id e sz els hid
  have hcap : els.length ≤ (σ id).cap := by
    rcases r4.2 with ⟨h1, _⟩ | ⟨g, cap, cur, e1, _, _, h4, _⟩
    · cases h1
    · injection e1 with _ _ e3; omega
  have hcell := r4.cells (g := (σ id).blk) rfl
  refine .sl _ _ sz _ _ hcap r3 (fun q => xs.getD q undef) (fun q p hq => ?_) (fun q p hq => ?_)
  all_goals
    obtain ⟨v, hv, hr, h1⟩ := r5.get hq
    have hd : xs.getD q undef = v := by rw [List.getD_eq_getElem?_getD, hv]; rfl
    rw [hd]
  · refine ⟨?_, ?_, h1⟩
    · have := hcell q v hv; rwa [Addr.add_lit] at this
    · have hq2 : q < els.length * sz := by
        have := (List.getElem?_eq_some_iff.1 hq).1
        rwa [← r5.len, r4.1] at this
      rintro (h2 | ⟨i, l, h2, h3⟩ | ⟨i, e', sz', els', h2, h3, h4⟩)
      · exact h.sep id (by rw [hid]; simp) _ h2
      · have := h.inj i id (by rw [h2]; simp) (by rw [hid]; simp) h3
        subst this; rw [hid] at h2; cases h2
      · have := h.inj i id (by rw [h2]; simp) (by rw [hid]; simp) h3
        subst this; rw [hid] at h2; cases h2
        omega
  · exact hr
theorem vr_strip (h : HR w M0 σ H) {v : Value} {p : PV} (hv : VV w M0 σ H v p) : VV w M0 σ H v (strip H p) := by
  cases p with
  | nilsl => cases hv; exact .sl0 _ _
  | gr id k =>
    simp only [strip]
    split
    · rename_i e sz els hid
      split
      · rename_i hk
        cases hv with
        | gr _ _ _ h0 hle hL hh =>
          obtain ⟨r1, r2, _⟩ := h.row id e sz els hid
          rw [hh (by omega), ← hk]
          exact row_sl h hid
      · exact .any _
    · exact .any _
  | _ => exact hv
theorem VR.cells_list {M L} {v : Value} {l : List PV} (h : VR w M σ L v (.agg l)) : ∃ cs : List Value, v = .agg cs.toArray ∧ CR w M σ L cs l := by
  cases h with
  | agg cs l hl h1 h => exact ⟨cs, rfl, hl, h1, h⟩
/-- Elements, flat. -/
theorem q9n {els : List (List PV)} {sz : Nat} (hs : ∀ e ∈ els, e.length = sz) : ∀ {i : Nat} {c : List PV}, els[i]? = some c → ∀ j p, c[j]? = some p → els.flatten[i * sz + j]? = some p := by
  induction els with
  | nil => intro i c h; simp at h
  | cons x t ih =>
    intro i c h j p hj
    have hx := hs x (by simp)
    rw [List.flatten_cons]
    cases i with
    | zero =>
      simp at h; subst h
      rw [Nat.zero_mul, Nat.zero_add, List.getElem?_append_left (List.getElem?_eq_some_iff.1 hj).1]; exact hj
    | succ i =>
      rw [List.getElem?_append_right (by rw [hx, Nat.succ_mul]; omega), hx]
      rw [show (i + 1) * sz + j - sz = i * sz + j by rw [Nat.succ_mul]; omega]
      exact ih (fun e he => hs e (by simp [he])) (by simpa using h) j p hj
theorem q1w {els : List (List PV)} {sz : Nat} (hs : ∀ e ∈ els, e.length = sz) : els.flatten.length = els.length * sz := by
  induction els with
  | nil => simp
  | cons x t ih => rw [List.flatten_cons, List.length_append, hs x (by simp), ih (fun e he => hs e (by simp [he])), List.length_cons, Nat.succ_mul, Nat.add_comm]
theorem zeros_ok {t : TypeId} {l : List PV} (h : zeros P t = some l) : ∃ z, (zeroValue t).run P w = .ok z w ∧ ∀ {w M σ L}, CR w M σ L z.cells.toList l := by
  unfold zeros at h
  split at h
  · rename_i i hi
    split at h
    · rename_i z hz
      split at h
      · rename_i ho
        cases h
        refine ⟨z, ?_, cr_cv0 _ ho⟩
        simp [zeroValue, typeInfo, hi, hz]
      · cases h
    · cases h
  · cases h
theorem q9o {e sz by_ : Nat} (h : eInfo P e = some (sz, by_)) : ∃ i z, P.info? e = some i ∧ i.zero = some z ∧ i.size = sz ∧ i.bytes = by_ ∧ z.cells.size = sz ∧ 0 < sz := by
  unfold eInfo at h
  split at h
  · rename_i i hi
    split at h
    · rename_i z hz
      split at h
      · rename_i hc
        cases h
        exact ⟨i, z, hi, hz, rfl, rfl, hc.1, hc.2⟩
      · cases h
    · cases h
  · cases h
set_option maxHeartbeats 1000000 in
theorem bin_sound (op : BinOp) (t : TypeId) {x y : Value} {p q r : PV} (hx : VV w M0 σ H x p) (hy : VV w M0 σ H y q) (he : q3f P op t p q = some r) : ∀ (a b : Operand), ∃ v, (do eqGuard op t a b x y; binOp op t x y : Sem Value).run P w = .ok v w ∧ VV w M0 σ H v r := by
  intro A B
  cases p with
  | int k n =>
    cases q with
    | int k' n' =>
      cases hx; cases hy
      have hg : (eqGuard op t A B (.int k n) (.int k' n')).run P w = .ok () w := by
        unfold eqGuard
        cases op <;> simp
      rw [Sem.run_bind, hg]
      simp only [Result.andThen_ok]
      unfold q3f at he
      cases op <;> simp only [eInt, x0z] at he
      all_goals (try split at he)
      all_goals (try (cases he; done))
      all_goals (try split at he)
      all_goals (try (cases he; done))
      all_goals (cases he)
      all_goals (first
        | (rename_i hk; subst hk; refine ⟨_, ?_, VR.int _ _⟩; simp [binOp, Op.intArith, Op.intCmp, Op.intBits]; done)
        | (rename_i hk; subst hk; refine ⟨_, ?_, VR.bool _⟩; simp [binOp, Op.intArith, Op.intCmp, Op.intBits]; done)
        | (rename_i hk hb; subst hk; refine ⟨_, ?_, VR.int _ _⟩; simp [binOp, Op.intDiv, hb]; done)
        | (rename_i hb; refine ⟨_, ?_, VR.int _ _⟩; simp [binOp, Op.shift, hb]; done))
    | _ => simp [q3f] at he
  | bool b =>
    cases q with
    | bool b' =>
      cases hx; cases hy
      have hg : (eqGuard op t A B (.bool b) (.bool b')).run P w = .ok () w := by
        unfold eqGuard
        cases op <;> simp
      rw [Sem.run_bind, hg]
      simp only [Result.andThen_ok]
      simp only [q3f] at he
      split at he
      · rename_i hu
        cases op <;> simp only [] at he
        all_goals (try (cases he; done))
        all_goals (cases he)
        · exact ⟨.bool (b == b'), by simp [binOp, run_equal_bool w t b b' hu], by constructor⟩
        · exact ⟨.bool (!(b == b')), by simp [binOp, run_equal_bool w t b b' hu], by constructor⟩
      · cases he
    | _ => simp [q3f] at he
  | ifc t0 q0 =>
    cases q with
    | nilif =>
      cases hx with
      | ifc _ v _ hv =>
      cases hy
      have hg : (eqGuard op t A B (.iface t0 v) .nilIface).run P w = .ok () w := by
        unfold eqGuard
        cases op <;> simp
      rw [Sem.run_bind, hg]
      simp only [Result.andThen_ok]
      simp only [q3f] at he
      split at he
      · rename_i hi
        obtain ⟨ms, hu⟩ : ∃ ms, P.underlying t = some (.interface ms) := by
          unfold ifcT at hi
          cases hu : P.underlying t with
          | none => rw [hu] at hi; cases hi
          | some d =>
            rw [hu] at hi
            cases d <;> first | exact ⟨_, rfl⟩ | (simp at hi)
        have hq : ∀ d, (Op.equalIn (d + 1) t (.iface t0 v) .nilIface).run P w = .ok false w := fun d => by
          simp [Op.equalIn, run_underlying hu]
        have hq : (Op.equal t (.iface t0 v) .nilIface).run P w = .ok false w := hq 9999
        cases op <;> simp only [] at he
        all_goals (try (cases he; done))
        all_goals (cases he)
        · exact ⟨.bool false, by simp [binOp, hq], .bool _⟩
        · exact ⟨.bool true, by simp [binOp, hq], .bool _⟩
      · cases he
    | _ => simp [q3f] at he
  | agg l =>
    cases q with
    | agg l' =>
      simp only [q3f] at he
      split at he
      · cases he
      · rename_i hgt
        split at he
        · rename_i a b ha hb
          obtain ⟨cs, rfl, hc⟩ := VR.cells_list hx
          obtain ⟨cs', rfl, hc'⟩ := VR.cells_list hy
          have hg : (eqGuard op t A B (.agg cs.toArray) (.agg cs'.toArray)).run P w = .ok () w := by
            unfold eqGuard
            have hgt' : P.eqGuardType P.depth t = false := by cases hq : P.eqGuardType P.depth t with | false => rfl | true => exact absurd (Or.inl hq) hgt
            cases op <;> first | rfl | (simp only [Bool.not_true, Bool.false_eq_true, if_false, Sem.run_bind, Sem.run_pure, Result.andThen_ok, run_program, hgt', Bool.not_false, if_true]; done)
          have hf : fits P t (.agg cs.toArray) cs ∧ fits P t (.agg cs'.toArray) cs' := by
            have hag : aggT P t = some true := Decidable.not_not.1 fun hq => hgt (.inr hq)
            obtain ⟨_, _, _, d, hu, hd⟩ := info_of hag
            unfold fits
            rw [hu]
            cases d <;> first | exact ⟨rfl, rfl⟩ | (exfalso; exact Bool.noConfusion hd)
          obtain ⟨heq, _⟩ := eq_ok (P := P) (w := w) 9980 20 t cs cs' l l' a b _ _ hc hc' ha hb hf.1 hf.2
          rw [Sem.run_bind, hg]
          simp only [Result.andThen_ok]
          cases op <;> simp only [] at he
          all_goals (try (cases he; done))
          all_goals (cases he)
          · exact ⟨.bool (eqL a b), by rw [run_eql_struct w t, heq]; rfl, by constructor⟩
          · exact ⟨.bool (!eqL a b), by rw [run_neq_struct w t, heq]; rfl, by constructor⟩
        · cases he
    | _ => simp [q3f] at he
  | _ => simp [q3f] at he
end
end Go.Proofs.YtoibbedpaaeclaaGreat
end

section
namespace Go.Proofs.YtoibbedpaaeclaaGreat
open Go Go.RowKit
set_option linter.unusedVariables false
set_option linter.unusedSimpArgs false
section
variable {P : Program} {w : World} {M0 : Nat → Nat → Prop} {σ : Nat → Gh} {H : Heap} {m : Nat}
theorem q6m {H : Heap} {m : Nat} (x : HE) : LV (hset H m (some x)) m := by unfold LV; rw [q1m]; simp
theorem vr_new (x : HE) (gh : Gh) (h0 : gh.len = 0) : VV w M0 (gset σ m gh) (hset H m (some x)) (.pointer (some ⟨gh.blk, 0, none⟩)) (.ptr m 0) := by
  have := VR.ptr (w := w) (M := MU M0 (gset σ m gh) (hset H m (some x))) (σ := gset σ m gh) (L := LV (hset H m (some x))) m 0 (q6m x) (by rw [q1c]; exact h0)
  rwa [q1c] at this
theorem op_new (h : HR w M0 σ H) (hm : H m = none) {S : Sem Value} {c : Array Value} {t : TypeId} {l : List PV} (hr : S.run P w = .ok (.pointer (some ⟨w.heap.size, 0, none⟩)) (w.alloc (.cells c t))) (hc : CR w (MU M0 σ H) σ (LV H) c.toList l) :
    OpOk P w M0 σ H m (do pure (.value (← S))) (.ptr m 0) (.new l) := by
  refine q5n (e := .new l) (q5e hr) (.inl rfl) ?_ (h.new hm c t l hc 1 c.size (by rw [Nat.one_mul]) (by simp [maxLen]))
  exact vr_new (σ := σ) (H := H) (.box l) ⟨w.heap.size, 1, 0, t, c.size⟩ rfl
theorem op_alloc (h : HR w M0 σ H) (hm : H m = none) {t : TypeId} {l : List PV} (hz : zeros P t = some l) : OpOk P w M0 σ H m (do pure (.value (← Instr.alloc t true (.tuple #[])))) (.ptr m 0) (.new l) := by
  obtain ⟨z, h1, h2⟩ := zeros_ok (P := P) (w := w) hz
  refine op_new h hm (c := z.cells) (t := t) ?_ h2
  unfold Instr.alloc
  simp [Sem.run_bind, h1, newVar, newRow]
theorem op_box (h : HR w M0 σ H) (hm : H m = none) {t : TypeId} {v : Value} {p : PV} {l : List PV} (hv : VV w M0 σ H v p) (hc : p.cells? = some l) : OpOk P w M0 σ H m (do pure (.value (← Instr.box t v))) (.ptr m 0) (.new l) := by
  refine op_new h hm (c := v.cells) (t := t) ?_ (q8p hv hc)
  simp [Instr.box, newVar, newRow]
theorem parts_rel {ev : Operand → Value} {ρ : Operand → PV} {parts : Array (Nat × Operand)} (hs : ∀ x ∈ (parts.toList.map (·.2)).toArray, VV w M0 σ H (ev x) (ρ x)) :
    (parts.map fun (i, x) => (i, ev x)).toList.length = (parts.toList.map fun (i, x) => (i, ρ x)).length ∧
    ∀ (i : Nat) (x : Nat × Value) (y : Nat × PV), (parts.map fun (i, x) => (i, ev x)).toList[i]? = some x → (parts.toList.map fun (i, x) => (i, ρ x))[i]? = some y → x.1 = y.1 ∧ VV w M0 σ H x.2 y.2 := by
  obtain ⟨parts⟩ := parts
  refine ⟨by simp, fun i x y hx hy => ?_⟩
  simp only [List.map_toArray, List.getElem?_map] at hx hy
  cases hp : parts[i]? with
  | none => rw [hp] at hy; cases hy
  | some q =>
    rw [hp] at hx hy
    simp only [Option.map_some, Option.some.injEq] at hx hy
    subst hx; subst hy
    exact ⟨rfl, hs q.2 (by simp only [List.mem_toArray, List.mem_map]; exact ⟨q, List.mem_of_getElem? hp, rfl⟩)⟩
theorem op_build (h : HR w M0 σ H) {ev : Operand → Value} {ρ : Operand → PV} {t : TypeId} {parts : Array (Nat × Operand)} {r : PV} (hs : ∀ x ∈ (parts.toList.map (·.2)).toArray, VV w M0 σ H (ev x) (ρ x))
    (he : q3z P t (parts.toList.map fun (i, x) => (i, ρ x)) = some r) : OpOk P w M0 σ H m (do pure (.value (← Instr.build t (parts.map fun (i, x) => (i, ev x))))) r .nop := by
  obtain ⟨e1, e2⟩ := parts_rel hs
  unfold q3z at he
  split at he
  · rename_i zl hz
    have hzc : ∃ it z, P.info? t = some it ∧ it.zero = some z ∧ CR w (MU M0 σ H) σ (LV H) z.cells.toList zl := by
      unfold zeros at hz
      split at hz
      · rename_i it hit
        split at hz
        · rename_i z hzz
          split at hz
          · rename_i ho
            cases hz
            exact ⟨it, z, hit, hzz, cr_cv0 _ ho⟩
          · cases hz
        · cases hz
      · cases hz
    obtain ⟨it, z, hit, hzz, hcz⟩ := hzc
    split at he
    · rename_i fs hu
      split at he
      · rename_i hall
        rw [Option.map_eq_some_iff] at he
        obtain ⟨l, hl, rfl⟩ := he
        have hpl : fs.toList.mapM (fun f => (P.info? f.type).map fun i => (f.offset, i.size)) = some (fs.toList.map fun f => (f.offset, P.cellsOf f.type)) := by
          have : ∀ l : List Field, (∀ f ∈ l, (P.info? f.type).isSome = true) → l.mapM (fun f => (P.info? f.type).map fun i => (f.offset, i.size)) = some (l.map fun f => (f.offset, P.cellsOf f.type)) := by
            intro l
            induction l with
            | nil => intro _; rfl
            | cons f l ih =>
              intro hf
              obtain ⟨i, hi⟩ := Option.isSome_iff_exists.1 (hf f (by simp))
              rw [List.mapM_cons, ih (fun g hg => hf g (by simp [hg]))]
              simp [hi, Program.cellsOf]
          exact this _ fun f hf => Array.all_eq_true_iff_forall_mem.1 hall f (Array.mem_toList_iff.1 hf)
        obtain ⟨cs', h1, h2⟩ := q7p (place' := fun i => (fs.toList.map fun f => (f.offset, P.cellsOf f.type)).toArray[i]?) (fun i x hx => by simpa using hx) _ _ z.cells.toList zl l e1 e2 hcz hl
        refine q2q h (q5e (run_build w t _ cs'.toArray ?_)) (vr_agg (by simpa using h2))
        unfold Program.built
        simp only [hit, hu, hzz, hpl]
        simpa using h1
      · cases he
    · rename_i n e hu
      split at he
      · rename_i hie
        obtain ⟨ie, hie⟩ := Option.isSome_iff_exists.1 hie
        rw [Option.map_eq_some_iff] at he
        obtain ⟨l, hl, rfl⟩ := he
        obtain ⟨cs', h1, h2⟩ := q7p (place' := fun i => some (i * ie.size, ie.size)) (fun i x hx => by simpa [Program.cellsOf, hie] using hx) _ _ z.cells.toList zl l e1 e2 hcz hl
        refine q2q h (q5e (run_build w t _ cs'.toArray ?_)) (vr_agg (by simpa using h2))
        unfold Program.built
        simp only [hit, hu, hzz, hie]
        simpa using h1
      · cases he
    · cases he
  · cases he
theorem chunks_ok (sz : Nat) : ∀ (n : Nat) (l : List PV), l.length = n * sz → (chunks sz n l).length = n ∧ (chunks sz n l).flatten = l ∧ ∀ e ∈ chunks sz n l, e.length = sz
  | 0, l, h => by
    have : l = [] := List.eq_nil_of_length_eq_zero (by simpa using h)
    subst this; simp [chunks]
  | n + 1, l, h => by
    rw [Nat.succ_mul] at h
    obtain ⟨h1, h2, h3⟩ := chunks_ok sz n (l.drop sz) (by rw [List.length_drop]; omega)
    refine ⟨by simp [chunks, h1], by simp only [chunks, List.flatten_cons, h2, List.take_append_drop], fun e he => ?_⟩
    simp only [chunks, List.mem_cons] at he
    rcases he with rfl | he
    · rw [List.length_take]; omega
    · exact h3 e he
theorem repl_get {α : Type} (z : List α) (n q : Nat) (hq : q < n * z.length) : (List.replicate n z).flatten[q]? = z[q % z.length]? := by
  induction n generalizing q with
  | zero => simp at hq
  | succ n ih =>
    rw [List.replicate_succ, List.flatten_cons]
    by_cases h : q < z.length
    · rw [List.getElem?_append_left h, Nat.mod_eq_of_lt h]
    · rw [List.getElem?_append_right (by omega), ih _ (by rw [Nat.succ_mul] at hq; omega)]
      congr 1
      conv => rhs; rw [← Nat.sub_add_cancel (Nat.le_of_not_lt h), Nat.add_mod_right]
/-- A new block that is nobody's to write to. -/
theorem op_fresh (h : HR w M0 σ H) {S : Sem Value} {cs : List Value} {t : TypeId} {els : List (List PV)} {sz : Nat} (hr : S.run P w = .ok (.slice (some ⟨w.heap.size, 0, none⟩) els.length els.length) (w.alloc (.cells cs.toArray t))) (hs : ∀ e ∈ els, e.length = sz)
    (hc : CR w (MU M0 σ H) σ (LV H) cs els.flatten) : OpOk P w M0 σ H m (do pure (.value (← S))) (.sl els) .nop := by
  have hb := x1c w (.cells cs.toArray t)
  have E : Ext w (MU M0 σ H) σ (LV H) (w.alloc (.cells cs.toArray t)) (MU M0 σ H) σ (LV H) := ext_all hb.block
  refine q5n (e := .nop) (q5e hr) (.inl rfl) ?_ ⟨h.all hb.size hb.block, Fr.all hb⟩
  refine .sl _ 0 sz _ els (Nat.le_refl _) hs (fun q => cs.getD q undef) (fun q p hq => ?_) (fun q p hq => ?_)
  all_goals
    obtain ⟨v, hv, hr, h1⟩ := hc.get hq
    have hd : cs.getD q undef = v := by rw [List.getD_eq_getElem?_getD, hv]; rfl
    rw [hd]
  · refine ⟨?_, fun hm => by have := mu_lt h hm; omega, h1⟩
    rw [Nat.zero_add, cell_of_row _ w.heap.size q cs.toArray t (0, 0) (heap_alloc_new w _)]
    simpa using hv
  · exact hr.mono E
theorem op_buildSlice (h : HR w M0 σ H) {ev : Operand → Value} {ρ : Operand → PV} {t : TypeId} {n : Nat} {parts : Array (Nat × Operand)} {r : PV} (hs : ∀ x ∈ (parts.toList.map (·.2)).toArray, VV w M0 σ H (ev x) (ρ x))
    (he : q2r P t n (parts.toList.map fun (i, x) => (i, ρ x)) = some r) : OpOk P w M0 σ H m (do pure (.value (← Instr.buildSlice t n (parts.map fun (i, x) => (i, ev x))))) r .nop := by
  obtain ⟨e1, e2⟩ := parts_rel hs
  unfold q2r at he
  split at he
  · rename_i e hu
    split at he
    · split at he
      · rename_i hnil
        split at he
        · rename_i hie
          cases he
          obtain ⟨ie, hie⟩ := Option.isSome_iff_exists.1 hie
          have hp0 : parts = #[] := by
            obtain ⟨parts⟩ := parts
            cases parts with
            | nil => rfl
            | cons a b => simp at hnil
          subst hp0
          have hb := x1c w (.cells #[] e)
          refine q5n (e := .nop) (n := .value (.slice (some ⟨w.heap.size, 0, none⟩) 0 0)) (w' := w.alloc (.cells #[] e)) (σ' := σ) (q5e ?_) (.inl rfl) (.nilsl _) ⟨h.all hb.size hb.block, Fr.all hb⟩
          simp [Instr.buildSlice, run_underlying hu, sizeOf, typeInfo, hie, newRow, Instr.fill, show Array.range 0 = #[] from rfl]
        · cases he
      · cases he
    · rename_i n
      split at he
      · rename_i sz by_ zl hei hzl
        split at he
        · rename_i hsm
          rw [Option.map_eq_some_iff] at he
          obtain ⟨l, hl, rfl⟩ := he
          obtain ⟨ie, z, hie, hz, hsz, _, hzs, hpos⟩ := q9o hei
          have hcz : CR w (MU M0 σ H) σ (LV H) z.cells.toList zl := by
            unfold zeros at hzl
            simp only [hie, hz] at hzl
            split at hzl
            · rename_i ho; cases hzl; exact cr_cv0 _ ho
            · cases hzl
          have hzl' : zl.length = sz := by rw [← hcz.len, Array.length_toList, hzs]
          have hc0 : CR w (MU M0 σ H) σ (LV H) ((List.range ((n + 1) * sz)).map fun q => z.cells.toList.getD (q % sz) undef) (List.replicate (n + 1) zl).flatten := by
            have hl1 : (List.replicate (n + 1) zl).flatten.length = (n + 1) * sz := by
              rw [q1w (sz := sz) (fun e he => by rw [List.eq_of_mem_replicate he]; exact hzl')]; simp
            refine ⟨by rw [hl1]; simp, fun v hv => ?_, fun i v p hv hp => ?_⟩
            · rw [List.mem_map] at hv
              obtain ⟨q, _, rfl⟩ := hv
              have hq : q % sz < z.cells.toList.length := by rw [Array.length_toList, hzs]; exact Nat.mod_lt _ hpos
              rw [List.getD_eq_getElem?_getD, List.getElem?_eq_getElem hq]
              exact hcz.one _ (List.getElem_mem hq)
            · have hi : i < (n + 1) * sz := by rw [← hl1]; exact (List.getElem?_eq_some_iff.1 hp).1
              rw [List.getElem?_map, List.getElem?_range hi] at hv
              simp at hv
              rw [repl_get zl (n + 1) i (by rw [hzl']; exact hi), hzl'] at hp
              obtain ⟨v', hv', hr', _⟩ := hcz.get hp
              rw [← hv, show z.cells[i % sz]?.getD undef = v' by rw [← Array.getElem?_toList, hv']; rfl]
              exact hr'
          obtain ⟨cs', h1, h2⟩ := q7p (place' := fun i => some (i * ie.size, ie.size)) (fun i x hx => by rw [hsz]; exact hx) _ _ _ _ l e1 e2 hc0 hl
          have hll : l.length = (n + 1) * sz := by
            have : ∀ (ps : List (Nat × PV)) (l0 l1 : List PV), pfill (fun i => some (i * sz, sz)) l0 ps = some l1 → l1.length = l0.length := by
              intro ps
              induction ps with
              | nil => intro l0 l1 hq; simp [pfill] at hq; rw [hq]
              | cons x ps ih =>
                intro l0 l1 hq
                obtain ⟨i, p⟩ := x
                simp only [pfill] at hq
                split at hq
                · split at hq
                  · rename_i hc
                    rw [ih _ _ hq, q2v _ _ _ hc.2]
                  · cases hq
                · cases hq
            rw [this _ _ _ hl, q1w (sz := sz) (fun e he => by rw [List.eq_of_mem_replicate he]; exact hzl')]; simp
          obtain ⟨k1, k2, k3⟩ := chunks_ok sz (n + 1) l hll
          refine op_fresh (cs := cs') (t := e) (sz := sz) h ?_ k3 (by rw [k2]; exact h2)
          rw [k1]
          refine run_buildSlice w t e (n + 1) _ cs'.toArray ie z hu hie hz (by rw [hsz]; omega) (by rw [hsz, Nat.succ_mul]; omega) ?_
          rw [← h1]
          congr 1
          apply Array.ext'
          simp only [Array.toList_map, Array.toList_range, hzs, hsz]
          apply List.map_congr_left
          intro q hq
          have hlt : q % sz < z.cells.size := by rw [hzs]; exact Nat.mod_lt _ hpos
          rw [getElem!_pos z.cells _ hlt, List.getD_eq_getElem?_getD, Array.getElem?_toList, Array.getElem?_eq_getElem hlt]; rfl
        · cases he
      · cases he
  · cases he
theorem bs_run (h : HR w M0 σ H) {ev : Operand → Value} {ρ : Operand → PV} {t : TypeId} {n : Nat} {parts : Array (Nat × Operand)} {els : List (List PV)} (hs : ∀ x ∈ (parts.toList.map (·.2)).toArray, VV w M0 σ H (ev x) (ρ x))
    (he : q2r P t n (parts.toList.map fun (i, x) => (i, ρ x)) = some (.sl els)) : ∃ (cs : List Value) (e : Nat), P.underlying t = some (.slice e) ∧ (Instr.buildSlice t n (parts.map fun (i, x) => (i, ev x))).run P w = .ok (.slice (some ⟨w.heap.size, 0, none⟩) els.length els.length) (w.alloc (.cells cs.toArray e)) ∧ (∀ x ∈ els, x.length = P.cellsOf e) ∧ els.length ≤ maxLen ∧ CR w (MU M0 σ H) σ (LV H) cs els.flatten := by
  obtain ⟨e1, e2⟩ := parts_rel hs
  unfold q2r at he
  split at he
  · rename_i e hu
    split at he
    · split at he
      · split at he <;> cases he
      · cases he
    · rename_i n
      split at he
      · rename_i sz by_ zl hei hzl
        split at he
        · rename_i hsm
          rw [Option.map_eq_some_iff] at he
          obtain ⟨l, hl, he'⟩ := he
          cases he'
          obtain ⟨ie, z, hie, hz, hsz, _, hzs, hpos⟩ := q9o hei
          have hcz : CR w (MU M0 σ H) σ (LV H) z.cells.toList zl := by
            unfold zeros at hzl
            simp only [hie, hz] at hzl
            split at hzl
            · rename_i ho; cases hzl; exact cr_cv0 _ ho
            · cases hzl
          have hzl' : zl.length = sz := by rw [← hcz.len, Array.length_toList, hzs]
          have hc0 : CR w (MU M0 σ H) σ (LV H) ((List.range ((n + 1) * sz)).map fun q => z.cells.toList.getD (q % sz) undef) (List.replicate (n + 1) zl).flatten := by
            have hl1 : (List.replicate (n + 1) zl).flatten.length = (n + 1) * sz := by
              rw [q1w (sz := sz) (fun e he => by rw [List.eq_of_mem_replicate he]; exact hzl')]; simp
            refine ⟨by rw [hl1]; simp, fun v hv => ?_, fun i v p hv hp => ?_⟩
            · rw [List.mem_map] at hv
              obtain ⟨q, _, rfl⟩ := hv
              have hq : q % sz < z.cells.toList.length := by rw [Array.length_toList, hzs]; exact Nat.mod_lt _ hpos
              rw [List.getD_eq_getElem?_getD, List.getElem?_eq_getElem hq]
              exact hcz.one _ (List.getElem_mem hq)
            · have hi : i < (n + 1) * sz := by rw [← hl1]; exact (List.getElem?_eq_some_iff.1 hp).1
              rw [List.getElem?_map, List.getElem?_range hi] at hv
              simp at hv
              rw [repl_get zl (n + 1) i (by rw [hzl']; exact hi), hzl'] at hp
              obtain ⟨v', hv', hr', _⟩ := hcz.get hp
              rw [← hv, show z.cells[i % sz]?.getD undef = v' by rw [← Array.getElem?_toList, hv']; rfl]
              exact hr'
          obtain ⟨cs', h1, h2⟩ := q7p (place' := fun i => some (i * ie.size, ie.size)) (fun i x hx => by rw [hsz]; exact hx) _ _ _ _ l e1 e2 hc0 hl
          have hll : l.length = (n + 1) * sz := by
            have : ∀ (ps : List (Nat × PV)) (l0 l1 : List PV), pfill (fun i => some (i * sz, sz)) l0 ps = some l1 → l1.length = l0.length := by
              intro ps
              induction ps with
              | nil => intro l0 l1 hq; simp [pfill] at hq; rw [hq]
              | cons x ps ih =>
                intro l0 l1 hq
                obtain ⟨i, p⟩ := x
                simp only [pfill] at hq
                split at hq
                · split at hq
                  · rename_i hc
                    rw [ih _ _ hq, q2v _ _ _ hc.2]
                  · cases hq
                · cases hq
            rw [this _ _ _ hl, q1w (sz := sz) (fun e he => by rw [List.eq_of_mem_replicate he]; exact hzl')]; simp
          obtain ⟨k1, k2, k3⟩ := chunks_ok sz (n + 1) l hll
          have hce : P.cellsOf e = sz := by simp [Program.cellsOf, hie, hsz]
          refine ⟨cs', e, hu, ?_, by rw [hce]; exact k3, ?_, by rw [k2]; exact h2⟩
          case refine_2 => rw [k1]; have := Nat.le_mul_of_pos_right (n + 1) hpos; simp only [maxLen]; omega
          rw [k1]
          refine run_buildSlice w t e (n + 1) _ cs'.toArray ie z hu hie hz (by rw [hsz]; omega) (by rw [hsz, Nat.succ_mul]; omega) ?_
          rw [← h1]
          congr 1
          apply Array.ext'
          simp only [Array.toList_map, Array.toList_range, hzs, hsz]
          apply List.map_congr_left
          intro q hq
          have hlt : q % sz < z.cells.size := by rw [hzs]; exact Nat.mod_lt _ hpos
          rw [getElem!_pos z.cells _ hlt, List.getD_eq_getElem?_getD, Array.getElem?_toList, Array.getElem?_eq_getElem hlt]; rfl
        · cases he
      · cases he
  · cases he
theorem op_buildB (h : HR w M0 σ H) (hm : H m = none) {ev : Operand → Value} {ρ : Operand → PV} {t e : TypeId} {n : Nat} {parts : Array (Nat × Operand)} {els : List (List PV)} (hs : ∀ x ∈ (parts.toList.map (·.2)).toArray, VV w M0 σ H (ev x) (ρ x))
    (he : q2r P t n (parts.toList.map fun (i, x) => (i, ρ x)) = some (.sl els)) (ht : P.underlying t = some (.slice e)) : OpOk P w M0 σ H m (do pure (.value (← Instr.buildSlice t n (parts.map fun (i, x) => (i, ev x))))) (.bs m els.length e (P.cellsOf e)) (.new els.flatten) := by
  obtain ⟨cs, e', ht', hrun, hs', hml, hc⟩ := bs_run h hs he
  obtain rfl : e' = e := by rw [ht] at ht'; cases ht'; rfl
  have hcs : cs.toArray.size = els.length * P.cellsOf e' := by rw [List.size_toArray, hc.len, q1w hs']
  refine q5n (e := .new _) (q5e hrun) (.inl rfl) ?_ (h.new hm cs.toArray e' _ (by simpa using hc) els.length (P.cellsOf e') hcs hml)
  have := VR.bs (w := w.alloc (.cells cs.toArray e')) (M := MU M0 (gset σ m ⟨w.heap.size, els.length, 0, e', P.cellsOf e'⟩) (hset H m (some (.box els.flatten)))) (σ := gset σ m ⟨w.heap.size, els.length, 0, e', P.cellsOf e'⟩) (L := LV (hset H m (some (.box els.flatten)))) m els.length e' (P.cellsOf e') (q6m _) (by rw [q1c]) (by rw [q1c]; exact Nat.le_refl _) (by rw [q1c]) (by rw [q1c])
  rw [q1c] at this
  exact this
theorem op_make (h : HR w M0 σ H) {t : TypeId} {v u : Value} {p q r : PV} (hv : VV w M0 σ H v p) (hu : VV w M0 σ H u q) (he : evMake P t p q = some r) : OpOk P w M0 σ H m (do pure (.value (← Instr.makeSlice t v u))) r .nop := by
  unfold evMake at he
  split at he
  · rename_i e ht
    split at he
    · rename_i sz by_ zl hei hzl
      split at he
      · rename_i k a
        split at he
        · rename_i k' b
          split at he
          · rename_i hc
            cases he
            obtain ⟨rfl, h0, hby, h63⟩ := hc
            cases hv; cases hu
            obtain ⟨ie, z, hie, hz, hsz, hby', hzs, hpos⟩ := q9o hei
            obtain ⟨n, rfl⟩ := Int.eq_ofNat_of_zero_le h0
            have hcz : CR w (MU M0 σ H) σ (LV H) z.cells.toList zl := by
              unfold zeros at hzl
              simp only [hie, hz] at hzl
              split at hzl
              · rename_i ho; cases hzl; exact cr_cv0 _ ho
              · cases hzl
            have hzl' : zl.length = sz := by rw [← hcz.len, Array.length_toList, hzs]
            have hc0 : CR w (MU M0 σ H) σ (LV H) ((List.range (n * sz)).map fun q => z.cells.toList.getD (q % sz) undef) (List.replicate n zl).flatten := by
              have hl1 : (List.replicate n zl).flatten.length = n * sz := by
                rw [q1w (sz := sz) (fun e he => by rw [List.eq_of_mem_replicate he]; exact hzl')]; simp
              refine ⟨by rw [hl1]; simp, fun v hv => ?_, fun i v p hv hp => ?_⟩
              · rw [List.mem_map] at hv
                obtain ⟨q, _, rfl⟩ := hv
                have hq : q % sz < z.cells.toList.length := by rw [Array.length_toList, hzs]; exact Nat.mod_lt _ hpos
                rw [List.getD_eq_getElem?_getD, List.getElem?_eq_getElem hq]
                exact hcz.one _ (List.getElem_mem hq)
              · have hi : i < n * sz := by rw [← hl1]; exact (List.getElem?_eq_some_iff.1 hp).1
                rw [List.getElem?_map, List.getElem?_range hi] at hv
                simp at hv
                rw [repl_get zl n i (by rw [hzl']; exact hi), hzl'] at hp
                obtain ⟨v', hv', hr', _⟩ := hcz.get hp
                rw [← hv, show z.cells[i % sz]?.getD undef = v' by rw [← Array.getElem?_toList, hv']; rfl]
                exact hr'
            refine op_fresh (t := e) (sz := sz) h ?_ (fun x hx => by rw [List.eq_of_mem_replicate hx]; exact hzl') hc0
            rw [run_make w t e ie z ht hie hz k k' (n : Int) (n : Int) (by omega) (Int.le_refl _) (by rw [hby']; exact hby) h63]
            simp only [Int.toNat_natCast, List.length_replicate]
            congr 3
            apply Array.ext'
            simp only [madeCells, Array.toList_map, Array.toList_range, hzs, hsz]
            apply List.map_congr_left
            intro q hq
            have hlt : q % sz < z.cells.size := by rw [hzs]; exact Nat.mod_lt _ hpos
            rw [getElem!_pos z.cells _ hlt, List.getD_eq_getElem?_getD, Array.getElem?_toList, Array.getElem?_eq_getElem hlt]; rfl
          · cases he
        · cases he
      · cases he
    · cases he
  · cases he
end
end Go.Proofs.YtoibbedpaaeclaaGreat
end

section
namespace Go.Proofs.YtoibbedpaaeclaaGreat
open Go Go.RowKit
set_option linter.unusedVariables false
set_option linter.unusedSimpArgs false
section
variable {P : Program} {w : World} {M0 : Nat → Nat → Prop} {σ : Nat → Gh} {H : Heap} {m : Nat}
theorem ref_cells {M L} {b o : Nat} {l : List PV} {f : Nat → Value} (hcell : ∀ (q : Nat) (p : PV), l[q]? = some p → w.cell? ⟨b, o + q, none⟩ = some (f q) ∧ ¬ M b (o + q) ∧ (f q).oneCell' = true)
    (h : ∀ (q : Nat) (p : PV), l[q]? = some p → VR w M σ L (f q) p) : CR w M σ L ((List.range l.length).map f) l ∧ ∀ j v, ((List.range l.length).map f)[j]? = some v → w.cell? ⟨b, o + j, none⟩ = some v := by
  have key : ∀ j v, ((List.range l.length).map f)[j]? = some v → ∃ p, l[j]? = some p ∧ v = f j := by
    intro j v hv
    have hj : j < l.length := by
      have := (List.getElem?_eq_some_iff.1 hv).1; simpa using this
    rw [List.getElem?_map, List.getElem?_range hj] at hv
    exact ⟨l[j], List.getElem?_eq_getElem hj, by simpa using hv.symm⟩
  refine ⟨⟨by simp, fun v hv => ?_, fun i v p hv hp => ?_⟩, fun j v hv => ?_⟩
  · obtain ⟨j, hj⟩ := List.getElem?_of_mem hv
    obtain ⟨p, hp, rfl⟩ := key j v hj
    exact (hcell j p hp).2.2
  · obtain ⟨_, _, rfl⟩ := key i v hv
    exact h i p hp
  · obtain ⟨p, hp, rfl⟩ := key j v hv
    exact (hcell j p hp).1
theorem op_load (h : HR w M0 σ H) {t : TypeId} {v : Value} {p r : PV} {e : Eff}
    (he : (match p with
      | .ref l => (cut P t l 0).map (·, Eff.nop)
      | .ptr id off => match H id with
        | some (.box l) => (cut P t l off).map (·, Eff.nop)
        | _ => none
      | _ => none) = some (r, e)) (hv : VV w M0 σ H v p) : OpOk P w M0 σ H m (do pure (.value (← Instr.loadAt t v))) r e := by
  cases p with
  | ref l =>
    simp only [Option.map_eq_some_iff, Prod.mk.injEq] at he
    obtain ⟨r', hr, rfl, rfl⟩ := he
    cases hv with
    | ref b o _ f hcell hh =>
      obtain ⟨c1, c2⟩ := ref_cells hcell hh
      obtain ⟨v, h1, h2⟩ := load_sound (P := P) c2 c1 hr
      refine q2q h (q5e ?_) h2
      simp only [Instr.loadAt, Instr.sureAddr, Sem.run_bind, Sem.run_pure, Result.andThen_ok]
      exact h1
  | ptr id off =>
    simp only at he
    split at he
    · rename_i l hid
      simp only [Option.map_eq_some_iff, Prod.mk.injEq] at he
      obtain ⟨r', hr, rfl, rfl⟩ := he
      cases hv with
      | ptr _ _ hL h0 =>
        obtain ⟨_, c, t', hg, _, hcr⟩ := h.box id l hid
        obtain ⟨v, h1, h2⟩ := load_sound (P := P) (b := (σ id).blk) (o := 0) (w := w) (fun j v hv => by
          rw [cell_of_row w _ _ c t' (0, 0) hg, Nat.zero_add]; rw [List.getElem?_take] at hv; split at hv <;> simp_all) hcr hr
        refine q2q h (q5e ?_) h2
        simp only [Instr.loadAt, Instr.sureAddr, Sem.run_bind, Sem.run_pure, Result.andThen_ok]
        rw [Nat.zero_add] at h1
        exact h1
    · cases he
  | _ => simp at he
theorem op_store (h : HR w M0 σ H) {t : TypeId} {va vx : Value} {id off : Nat} {px : PV} {l c : List PV} (ha : VV w M0 σ H va (.ptr id off)) (hx : VV w M0 σ H vx px) (hl : px.cells? = some l) (hid : H id = some (.box c))
    (h1 : l.length = P.cellsOf t) (h2 : (P.info? t).isSome = true) (h3 : off + l.length ≤ c.length) : OpOk P w M0 σ H m (do (Instr.storeAt t va vx); pure .skip) .undef (.put id off l) := by
  obtain ⟨i, hi⟩ := Option.isSome_iff_exists.1 h2
  have hcr := q8p hx hl
  cases ha with
  | ptr _ _ hL h0 =>
    obtain ⟨_, cs, t', hg, _, hcs⟩ := h.box id c hid
    have hcl : c.length ≤ cs.toList.length := by have := hcs.len; rw [List.length_take] at this; omega
    have hst := run_storeCells_at (P := P) (σ id).blk off t' vx.cells.toList 0 cs w hg (by rw [hcr.len, ← Array.length_toList (xs := cs)]; omega) hcr.one
    have happ : Eff.app m H (.put id off l) = hset H id (some (.box (splice c off l))) := by simp [Eff.app, hid]
    have hput := h.put hid hg (l' := splice c off l) (c' := (splice cs.toList off vx.cells.toList).toArray) (q2v _ _ _ h3) (by rw [List.size_toArray, q2v _ _ _ (by rw [hcr.len]; omega), Array.length_toList]) (by rw [q2v _ _ _ h3, List.toList_toArray, x0a _ _ _ _ (by rw [hcr.len]; exact h3) hcl]; exact hcs.splice hcr h3)
    refine q5n (e := .put id off l) (n := .skip) (v := undef) (σ' := σ) (w' := w.setRow (σ id).blk (splice cs.toList off vx.cells.toList).toArray) (run_u ?_) (.inr ⟨rfl, rfl⟩) (by rw [happ]; exact .undef) (by rw [happ]; exact hput)
    have hsz : vx.cells.size = P.cellsOf t := by rw [← Array.length_toList, hcr.len, h1]
    simp only [Instr.storeAt, Instr.sureAddr, Sem.run_bind, Sem.run_pure, Result.andThen_ok, storeVar, run_sizeOf w hi, hsz, ne_eq, not_true_eq_false, if_false]
    simp only [Nat.add_zero] at hst
    exact hst
theorem q7q {M L} {v : Value} {els : List (List PV)} (hv : VR w M σ L v (.sl els)) : (els = [] ∧ ∃ A cap, v = .slice A 0 cap) ∨
    ∃ (b o sz cap : Nat) (f : Nat → Value), v = .slice (some ⟨b, o, none⟩) els.length cap ∧ els.length ≤ cap ∧ (∀ e ∈ els, e.length = sz) ∧ (∀ (q : Nat) (p : PV), els.flatten[q]? = some p → w.cell? ⟨b, o + q, none⟩ = some (f q) ∧ ¬ M b (o + q) ∧ (f q).oneCell' = true) ∧ ∀ (q : Nat) (p : PV), els.flatten[q]? = some p → VR w M σ L (f q) p := by
  cases hv with
  | sl0 A cap => exact .inl ⟨rfl, A, cap, rfl⟩
  | sl b o sz cap _ hc hs f hcell h => exact .inr ⟨b, o, sz, cap, f, rfl, hc, hs, hcell, h⟩
theorem sub_get {els : List (List PV)} {sz : Nat} (hs : ∀ e ∈ els, e.length = sz) (l h : Nat) (hh : h ≤ els.length) {q : Nat} {p : PV} (hq : ((els.take h).drop l).flatten[q]? = some p) : els.flatten[l * sz + q]? = some p := by
  have hsz : 0 < sz := by
    rcases Nat.eq_zero_or_pos sz with h0 | h0
    · exfalso
      have := q1w (els := (els.take h).drop l) (sz := sz) (fun e he => hs e (List.mem_of_mem_take (List.mem_of_mem_drop he)))
      rw [h0, Nat.mul_zero] at this
      have := (List.getElem?_eq_some_iff.1 hq).1
      omega
    · exact h0
  have hlen := (List.getElem?_eq_some_iff.1 hq).1
  rw [q1w (sz := sz) (fun e he => hs e (List.mem_of_mem_take (List.mem_of_mem_drop he)))] at hlen
  have hi : q / sz < ((els.take h).drop l).length := by rw [Nat.div_lt_iff_lt_mul hsz]; exact hlen
  have hc : ((els.take h).drop l)[q / sz]? = some ((els.take h).drop l)[q / sz] := List.getElem?_eq_getElem hi
  have hcl : ((els.take h).drop l)[q / sz].length = sz := hs _ (List.mem_of_mem_take (List.mem_of_mem_drop (List.getElem_mem hi)))
  have hm : q % sz < ((els.take h).drop l)[q / sz].length := by rw [hcl]; exact Nat.mod_lt _ hsz
  have h1 := q9n (sz := sz) (fun e he => hs e (List.mem_of_mem_take (List.mem_of_mem_drop he))) hc (q % sz) _ (List.getElem?_eq_getElem hm)
  rw [Nat.mul_comm, Nat.div_add_mod] at h1
  rw [hq] at h1
  have h2 : els[l + q / sz]? = some ((els.take h).drop l)[q / sz] := by
    rw [List.getElem?_drop, List.getElem?_take] at hc
    split at hc
    · exact hc
    · cases hc
  have h3 := q9n hs h2 (q % sz) _ (List.getElem?_eq_getElem hm)
  rw [Nat.add_mul, Nat.add_assoc, Nat.mul_comm (q / sz) sz, Nat.div_add_mod] at h3
  rw [h3, h1]
def bnd (x : Option PV) (y d : Nat) : Option Nat := match x with
  | some (.int _ n) => if 0 ≤ n ∧ n ≤ (y : Int) then some n.toNat else none
  | some _ => none
  | none => some d
theorem op_slice (h : HR w M0 σ H) {t : TypeId} {v : Value} {p r : PV} {lo hi : Option Value} {plo phi : Option PV} (hv : VV w M0 σ H v p)
    (hlo : ∀ x, lo = some x → ∃ y, plo = some y ∧ VV w M0 σ H x y) (hlo' : lo = none → plo = none) (hhi : ∀ x, hi = some x → ∃ y, phi = some y ∧ VV w M0 σ H x y) (hhi' : hi = none → phi = none)
    (he : evSlice P t p plo phi = some r) : OpOk P w M0 σ H m (do pure (.value (← Instr.sliceAt t v lo hi none))) r .nop := by
  unfold evSlice at he
  split at he
  · rename_i e hu
    split at he
    · rename_i hie
      obtain ⟨i, hi'⟩ := Option.isSome_iff_exists.1 hie
      split at he
      · rename_i els
        split at he
        · rename_i hN hhN
          split at he
          · rename_i lN hlN
            split at he
            case isFalse => cases he
            rename_i hstr
            cases he
            obtain ⟨A, cap, hvv, hcap⟩ : ∃ A cap, v = .slice A els.length cap ∧ els.length ≤ cap := by
              rcases q7q hv with ⟨rfl, A, cap, rfl⟩ | ⟨b, o, sz, cap, f, rfl, hc, _⟩
              · exact ⟨A, cap, rfl, Nat.zero_le _⟩
              · exact ⟨_, cap, rfl, hc⟩
            have hbd : ∀ (x : Value) (y : Nat) (c : BoundsCode) (pn : PV) (N : Nat), VV w M0 σ H x pn → (match pn with | .int _ n => (if 0 ≤ n ∧ n ≤ (y : Int) then some n.toNat else none) | _ => none) = some N → ∀ y' : Nat, y ≤ y' → (Instr.sliceBound x y' c).run P w = .ok N w ∧ N ≤ y := by
              intro x y c pn N hx hN y' hy
              cases pn with
              | int k n =>
                cases hx
                simp only at hN
                split at hN
                · rename_i hc
                  cases hN
                  refine ⟨?_, by omega⟩
                  unfold Instr.sliceBound
                  simp only [asIntOf, Sem.run_bind, Sem.run_pure, Result.andThen_ok]
                  rw [if_pos ⟨hc.1, by omega⟩]; rfl
                · cases hN
              | _ => simp at hN
            have hH : ∃ S : Sem Nat, (match hi with | some v => Instr.sliceBound v cap (if true then .sliceAcap else .sliceAlen) | none => pure els.length) = S ∧ S.run P w = .ok hN w ∧ hN ≤ els.length := by
              refine ⟨_, rfl, ?_⟩
              cases hi with
              | none => rw [hhi' rfl] at hhN; cases hhN; exact ⟨rfl, Nat.le_refl _⟩
              | some x =>
                obtain ⟨y, rfl, hy⟩ := hhi x rfl
                refine hbd x els.length _ y hN hy ?_ cap hcap
                cases y <;> simp_all
            have hL : ∃ S : Sem Nat, (match lo with | some v => Instr.sliceBound v hN (if (none : Option Value).isSome then .slice3C else .sliceB) | none => pure 0) = S ∧ S.run P w = .ok lN w ∧ lN ≤ hN := by
              refine ⟨_, rfl, ?_⟩
              cases lo with
              | none => rw [hlo' rfl] at hlN; cases hlN; exact ⟨rfl, Nat.zero_le _⟩
              | some x =>
                obtain ⟨y, rfl, hy⟩ := hlo x rfl
                refine hbd x hN _ y lN hy ?_ hN (Nat.le_refl _)
                cases y <;> simp_all
            obtain ⟨SH, eH, rH, bH⟩ := hH
            obtain ⟨SL, eL, rL, bL⟩ := hL
            have hrun : (Instr.sliceAt t v lo hi none).run P w = .ok (.slice (if cap = lN then A else A.map (·.add (lN * P.cellsOf e))) (hN - lN) (cap - lN)) w := by
              have hb : (Instr.sliceBounds true els.length cap lo hi none).run P w = .ok (lN, hN, cap) w := by
                unfold Instr.sliceBounds
                cases lo with
                | none => cases hi with
                  | none => simp only [Sem.run_bind, Sem.run_pure, Result.andThen_ok] at eH eL ⊢; subst eH; subst eL; simp only [Sem.run_pure, Result.ok.injEq, and_true] at rH rL; subst rH; subst rL; rfl
                  | some _ => simp only [Sem.run_bind, Sem.run_pure, Result.andThen_ok] at eH eL ⊢; subst eH; subst eL; simp only [Sem.run_pure, Result.ok.injEq, and_true] at rL; subst rL; simp only [if_true] at rH ⊢; rw [rH]; rfl
                | some _ => cases hi with
                  | none => simp only [Sem.run_bind, Sem.run_pure, Result.andThen_ok] at eH eL ⊢; subst eH; subst eL; simp only [Sem.run_pure, Result.ok.injEq, and_true] at rH; subst rH; simp only [Option.isSome_none, Bool.false_eq_true, if_false] at rL ⊢; rw [rL]; rfl
                  | some _ => simp only [Sem.run_bind, Sem.run_pure, Result.andThen_ok] at eH eL ⊢; subst eH; subst eL; simp only [if_true, Option.isSome_none, Bool.false_eq_true, if_false] at rH rL ⊢; rw [rH]; simp only [Result.andThen_ok]; rw [rL]; rfl
              rw [hvv]
              unfold Instr.sliceAt
              rw [Sem.run_bind, run_underlying hu]
              simp only [Result.andThen_ok]
              unfold Instr.slice
              rw [Sem.run_bind, run_underlying hu]
              simp only [Result.andThen_ok, Sem.run_bind, hb, run_sizeOf w hi', Sem.run_pure]
            refine q2q h (q5e hrun) ?_
            by_cases hemp : hN ≤ lN
            · have : (els.take hN).drop lN = [] := by rw [List.drop_eq_nil_iff, List.length_take]; omega
              rw [this, show hN - lN = 0 by omega]
              exact .sl0 _ _
            · rcases q7q hv with ⟨rfl, _⟩ | ⟨b, o, sz, cap', f, hvv', hc, hs, hcell, hh⟩
              · simp at bH; omega
              · rw [hvv] at hvv'
                injection hvv' with e1 _ e3
                subst e1; subst e3
                have hlt : lN < els.length := by omega
                have hsz : P.cellsOf e = sz := by
                  rw [List.getElem?_eq_getElem hlt] at hstr
                  rw [← hs _ (List.getElem_mem hlt)]
                  simpa using (beq_iff_eq.1 hstr).symm
                rw [if_neg (by omega), hsz]
                have hl : hN - lN = ((els.take hN).drop lN).length := by rw [List.length_drop, List.length_take]; omega
                rw [hl]
                simp only [Option.map_some, Addr.add_lit]
                refine .sl b (o + lN * sz) sz (cap - lN) _ (by rw [← hl]; omega) (fun e he => hs e (List.mem_of_mem_take (List.mem_of_mem_drop he))) (fun q => f (lN * sz + q)) (fun q p hq => ?_) (fun q p hq => ?_)
                · have := hcell _ p (sub_get hs lN hN bH hq)
                  rwa [← Nat.add_assoc] at this
                · exact hh _ p (sub_get hs lN hN bH hq)
          · cases he
        · cases he
      · cases he
    · cases he
  · cases he
end
end Go.Proofs.YtoibbedpaaeclaaGreat
end
