import Derived.Orders
import Derived.Below
import Derived.Deep.AppendSrc
import Derived.Laws.Rows
import Derived.KernelRfl
import Derived.Laws.Slices
import Derived.Laws.Tables
namespace Go.Proofs.Yteibeoipnjhicaa
open Go Go.RowKit
set_option linter.unusedVariables false
set_option linter.unusedSimpArgs false
/-! Pure values, and what it says that a value in a world represents one. -/
inductive PV where
  | any | undef | nilif | nilfn | nilsl
  | bool (b : Bool)
  | int (k : IntKind) (n : Int)
  | str (s : ByteArray)
  | agg (l : List PV)
  | tup (l : List PV)
  | sl (els : List (List PV))
  | gr (id k : Nat)
  | ref (l : List PV)
  | ptr (id off : Nat)
  | fn (f : Fn) (first cap : List PV)
  | ifc (t : TypeId) (v : PV)
  | bs (id n e sz : Nat)
  | bz
  | c0
  deriving Inhabited
/-- What is known of an own block: its number, and of an own row its capacity and its length. -/
structure Gh where
  blk : Nat
  cap : Nat
  len : Nat
  ty : Nat
  sz : Nat
inductive VR (w : World) (M : Nat → Nat → Prop) (σ : Nat → Gh) (L : Nat → Prop) : Value → PV → Prop
  | any (v) : VR w M σ L v .any
  | undef : VR w M σ L (.tuple #[]) .undef
  | nilif : VR w M σ L .nilIface .nilif
  | nilfn : VR w M σ L .nilFunc .nilfn
  | nilsl (A) : VR w M σ L (.slice A 0 0) .nilsl
  | bool (b) : VR w M σ L (.bool b) (.bool b)
  | int (k n) : VR w M σ L (.int k n) (.int k n)
  | str (s) : VR w M σ L (.string s) (.str s)
  | agg (cs : List Value) (l : List PV) (hl : cs.length = l.length) (h1 : ∀ v ∈ cs, v.oneCell' = true) (h : ∀ (i : Nat) (v : Value) (p : PV), cs[i]? = some v → l[i]? = some p → VR w M σ L v p) : VR w M σ L (.agg cs.toArray) (.agg l)
  | tup (cs : List Value) (l : List PV) (hl : cs.length = l.length) (h : ∀ (i : Nat) (v : Value) (p : PV), cs[i]? = some v → l[i]? = some p → VR w M σ L v p) : VR w M σ L (.tuple cs.toArray) (.tup l)
  | sl0 (A cap) : VR w M σ L (.slice A 0 cap) (.sl [])
  | sl (b o sz cap : Nat) (els : List (List PV)) (hc : els.length ≤ cap) (hs : ∀ e ∈ els, e.length = sz) (f : Nat → Value)
      (hcell : ∀ (q : Nat) (p : PV), els.flatten[q]? = some p → w.cell? ⟨b, o + q, none⟩ = some (f q) ∧ ¬ M b (o + q) ∧ (f q).oneCell' = true)
      (h : ∀ (q : Nat) (p : PV), els.flatten[q]? = some p → VR w M σ L (f q) p) : VR w M σ L (.slice (some ⟨b, o, none⟩) els.length cap) (.sl els)
  | gr (id k : Nat) (v : Value) (h0 : 0 < k) (hle : k ≤ (σ id).len) (hL : L id) (hv : k = (σ id).len → v = .slice (some ⟨(σ id).blk, 0, none⟩) k (σ id).cap) : VR w M σ L v (.gr id k)
  | ref (b o : Nat) (l : List PV) (f : Nat → Value) (hcell : ∀ (q : Nat) (p : PV), l[q]? = some p → w.cell? ⟨b, o + q, none⟩ = some (f q) ∧ ¬ M b (o + q) ∧ (f q).oneCell' = true)
      (h : ∀ (q : Nat) (p : PV), l[q]? = some p → VR w M σ L (f q) p) : VR w M σ L (.pointer (some ⟨b, o, none⟩)) (.ref l)
  | ptr (id off : Nat) (hL : L id) (h0 : (σ id).len = 0) : VR w M σ L (.pointer (some ⟨(σ id).blk, off, none⟩)) (.ptr id off)
  | fn (f : Fn) (fs cs : List Value) (l1 l2 : List PV) (hl1 : fs.length = l1.length) (hl2 : cs.length = l2.length)
      (h1 : ∀ (i : Nat) (v : Value) (p : PV), fs[i]? = some v → l1[i]? = some p → VR w M σ L v p) (h2 : ∀ (i : Nat) (v : Value) (p : PV), cs[i]? = some v → l2[i]? = some p → VR w M σ L v p) : VR w M σ L (.func f fs.toArray cs.toArray) (.fn f l1 l2)
  | ifc (t v p) (h : VR w M σ L v p) : VR w M σ L (.iface t v) (.ifc t p)
  | bs (id n e sz : Nat) (hL : L id) (h0 : (σ id).len = 0) (hc : n ≤ (σ id).cap) (hty : (σ id).ty = e) (hsz : (σ id).sz = sz) : VR w M σ L (.slice (some ⟨(σ id).blk, 0, none⟩) n (σ id).cap) (.bs id n e sz)
  | bz : VR w M σ L (.slice none 0 0) .bz
  | c0 (A) : VR w M σ L (.slice A 0 0) .c0
/-- From one state to a later one. -/
structure Ext (w : World) (M : Nat → Nat → Prop) (σ : Nat → Gh) (L : Nat → Prop) (w' : World) (M' : Nat → Nat → Prop) (σ' : Nat → Gh) (L' : Nat → Prop) : Prop where
  cell : ∀ b o v, w.cell? ⟨b, o, none⟩ = some v → ¬ M b o → w'.cell? ⟨b, o, none⟩ = some v ∧ ¬ M' b o
  gh : ∀ id, L id → L' id ∧ (σ' id = σ id ∨ (0 < (σ id).len ∧ (σ id).len < (σ' id).len))
theorem VR.mono {w M σ L w' M' σ' L'} (E : Ext w M σ L w' M' σ' L') {v : Value} {p : PV} (h : VR w M σ L v p) : VR w' M' σ' L' v p := by
  induction h with
  | any v => exact .any v
  | undef => exact .undef
  | nilif => exact .nilif
  | nilfn => exact .nilfn
  | nilsl A => exact .nilsl A
  | bool b => exact .bool b
  | int k n => exact .int k n
  | str s => exact .str s
  | agg cs l hl h1 h ih => exact .agg cs l hl h1 ih
  | tup cs l hl h ih => exact .tup cs l hl ih
  | sl0 A cap => exact .sl0 A cap
  | sl b o sz cap els hc hs f hcell h ih => exact .sl b o sz cap els hc hs f (fun q p hq => have ⟨h1, h2, h3⟩ := hcell q p hq; have ⟨g1, g2⟩ := E.cell _ _ _ h1 h2; ⟨g1, g2, h3⟩) ih
  | gr id k v h0 hle hL hv =>
    obtain ⟨g1, g2⟩ := E.gh id hL
    rcases g2 with g2 | ⟨g2, g3⟩
    · exact .gr id k v h0 (by rw [g2]; exact hle) g1 (by rw [g2]; exact hv)
    · exact .gr id k v h0 (by omega) g1 (fun e => by omega)
  | ref b o l f hcell h ih => exact .ref b o l f (fun q p hq => have ⟨h1, h2, h3⟩ := hcell q p hq; have ⟨g1, g2⟩ := E.cell _ _ _ h1 h2; ⟨g1, g2, h3⟩) ih
  | ptr id off hL h0 =>
    obtain ⟨g1, g2⟩ := E.gh id hL
    rcases g2 with g2 | ⟨g2, g3⟩
    · rw [← g2]; exact .ptr id off g1 (by rw [g2]; exact h0)
    · omega
  | fn f fs cs l1 l2 hl1 hl2 h1 h2 ih1 ih2 => exact .fn f fs cs l1 l2 hl1 hl2 ih1 ih2
  | ifc t v p h ih => exact .ifc t v p ih
  | bs id n e sz hL h0 hc hty hsz =>
    obtain ⟨g1, g2⟩ := E.gh id hL
    rcases g2 with g2 | ⟨g2, g3⟩
    · rw [← g2]; exact .bs id n e sz g1 (by rw [g2]; exact h0) (by rw [g2]; exact hc) (by rw [g2]; exact hty) (by rw [g2]; exact hsz)
    · omega
  | bz => exact .bz
  | c0 A => exact .c0 A
theorem Ext.refl (w M σ L) : Ext w M σ L w M σ L := ⟨fun _ _ _ h1 h2 => ⟨h1, h2⟩, fun _ h => ⟨h, .inl rfl⟩⟩
theorem Ext.trans {w M σ L w' M' σ' L' w'' M'' σ'' L''} (h : Ext w M σ L w' M' σ' L') (k : Ext w' M' σ' L' w'' M'' σ'' L'') : Ext w M σ L w'' M'' σ'' L'' := by
  refine ⟨fun b o v h1 h2 => ?_, fun id hid => ?_⟩
  · obtain ⟨a1, a2⟩ := h.cell b o v h1 h2
    exact k.cell b o v a1 a2
  · obtain ⟨a1, a2⟩ := h.gh id hid
    obtain ⟨b1, b2⟩ := k.gh id a1
    refine ⟨b1, ?_⟩
    rcases a2 with a2 | a2 <;> rcases b2 with b2 | b2
    · exact .inl (b2.trans a2)
    · rw [a2] at b2; exact .inr b2
    · rw [b2]; exact .inr a2
    · exact .inr ⟨a2.1, Nat.lt_trans a2.2 b2.2⟩
/-- Only own blocks of S are named. -/
inductive Bd (S : Nat → Prop) : PV → Prop
  | any : Bd S .any
  | undef : Bd S .undef
  | nilif : Bd S .nilif
  | nilfn : Bd S .nilfn
  | nilsl : Bd S .nilsl
  | bool (b) : Bd S (.bool b)
  | int (k n) : Bd S (.int k n)
  | str (s) : Bd S (.str s)
  | agg (l) (h : ∀ p ∈ l, Bd S p) : Bd S (.agg l)
  | tup (l) (h : ∀ p ∈ l, Bd S p) : Bd S (.tup l)
  | sl (els) (h : ∀ e ∈ els, ∀ p ∈ e, Bd S p) : Bd S (.sl els)
  | gr (id k) (h : S id) : Bd S (.gr id k)
  | ref (l) (h : ∀ p ∈ l, Bd S p) : Bd S (.ref l)
  | ptr (id off) (h : S id) : Bd S (.ptr id off)
  | fn (f l1 l2) (h1 : ∀ p ∈ l1, Bd S p) (h2 : ∀ p ∈ l2, Bd S p) : Bd S (.fn f l1 l2)
  | ifc (t v) (h : Bd S v) : Bd S (.ifc t v)
  | bs (id n e sz) (h : S id) : Bd S (.bs id n e sz)
  | bz : Bd S .bz
  | c0 : Bd S .c0
abbrev NoId (p : PV) : Prop := Bd (fun _ => False) p
theorem mem_of_get {α : Type} {l : List α} {i : Nat} {p : α} (h : l[i]? = some p) : p ∈ l := List.mem_of_getElem? h
/-- Which own blocks there are plays no part for a value that names those of S alone. -/
theorem VR.bd {w M σ L M' σ' L'} {S : Nat → Prop} (hM : ∀ b o v, w.cell? ⟨b, o, none⟩ = some v → ¬ M b o → ¬ M' b o) (hS : ∀ id, S id → L' id ∧ σ' id = σ id) {v : Value} {p : PV} (h : VR w M σ L v p) (hb : Bd S p) : VR w M' σ' L' v p := by
  induction h with
  | any v => exact .any v
  | undef => exact .undef
  | nilif => exact .nilif
  | nilfn => exact .nilfn
  | nilsl A => exact .nilsl A
  | bool b => exact .bool b
  | int k n => exact .int k n
  | str s => exact .str s
  | agg cs l hl h1 h ih => cases hb with | agg _ hb => exact .agg cs l hl h1 (fun i v p hv hp => ih i v p hv hp (hb p (mem_of_get hp)))
  | tup cs l hl h ih => cases hb with | tup _ hb => exact .tup cs l hl (fun i v p hv hp => ih i v p hv hp (hb p (mem_of_get hp)))
  | sl0 A cap => exact .sl0 A cap
  | sl b o sz cap els hc hs f hcell h ih =>
    cases hb with
    | sl _ hb =>
      exact .sl b o sz cap els hc hs f (fun q p hq => have ⟨h1, h2, h3⟩ := hcell q p hq; ⟨h1, hM _ _ _ h1 h2, h3⟩) (fun q p hq => ih q p hq (by
        obtain ⟨e, he, hp⟩ := List.mem_flatten.1 (mem_of_get hq)
        exact hb e he p hp))
  | gr id k v h0 hle hL hv =>
    cases hb with
    | gr _ _ hs => obtain ⟨g1, g2⟩ := hS id hs; exact .gr id k v h0 (by rw [g2]; exact hle) g1 (by rw [g2]; exact hv)
  | ref b o l f hcell h ih => cases hb with | ref _ hb => exact .ref b o l f (fun q p hq => have ⟨h1, h2, h3⟩ := hcell q p hq; ⟨h1, hM _ _ _ h1 h2, h3⟩) (fun q p hq => ih q p hq (hb p (mem_of_get hq)))
  | ptr id off hL h0 => cases hb with | ptr _ _ hs => obtain ⟨g1, g2⟩ := hS id hs; rw [← g2]; exact .ptr id off g1 (by rw [g2]; exact h0)
  | fn f fs cs l1 l2 hl1 hl2 h1 h2 ih1 ih2 => cases hb with | fn _ _ _ hb1 hb2 => exact .fn f fs cs l1 l2 hl1 hl2 (fun i v p hv hp => ih1 i v p hv hp (hb1 p (mem_of_get hp))) (fun i v p hv hp => ih2 i v p hv hp (hb2 p (mem_of_get hp)))
  | ifc t v p h ih => cases hb with | ifc _ _ hb => exact .ifc t v p (ih hb)
  | bs id n e sz hL h0 hc hty hsz => cases hb with | bs _ _ _ _ hs => obtain ⟨g1, g2⟩ := hS id hs; rw [← g2]; exact .bs id n e sz g1 (by rw [g2]; exact h0) (by rw [g2]; exact hc) (by rw [g2]; exact hty) (by rw [g2]; exact hsz)
  | bz => exact .bz
  | c0 A => exact .c0 A
/-! Own boxes and rows. -/
inductive HE where
  | box (l : List PV)
  | row (e sz : Nat) (els : List (List PV))
abbrev Heap := Nat → Option HE
def hset (H : Heap) (id : Nat) (x : Option HE) : Heap := fun i => if i = id then x else H i
def gset (σ : Nat → Gh) (id : Nat) (g : Gh) : Nat → Gh := fun i => if i = id then g else σ i
theorem hset_same (H : Heap) (id x) : hset H id x id = x := if_pos rfl
theorem hset_ne (H : Heap) {id i : Nat} (x) (h : i ≠ id) : hset H id x i = H i := if_neg h
theorem gset_same (σ : Nat → Gh) (id x) : gset σ id x id = x := if_pos rfl
theorem gset_ne (σ : Nat → Gh) {id i : Nat} (x) (h : i ≠ id) : gset σ id x i = σ i := if_neg h
def MU (M0 : Nat → Nat → Prop) (σ : Nat → Gh) (H : Heap) (b o : Nat) : Prop :=
  M0 b o ∨ (∃ id l, H id = some (.box l) ∧ (σ id).blk = b) ∨ (∃ id e sz els, H id = some (.row e sz els) ∧ (σ id).blk = b ∧ els.length * sz ≤ o)
def LV (H : Heap) (id : Nat) : Prop := H id ≠ none
abbrev VV (w : World) (M0 : Nat → Nat → Prop) (σ : Nat → Gh) (H : Heap) : Value → PV → Prop := VR w (MU M0 σ H) σ (LV H)
structure CR (w : World) (M : Nat → Nat → Prop) (σ : Nat → Gh) (L : Nat → Prop) (cs : List Value) (l : List PV) : Prop where
  len : cs.length = l.length
  one : ∀ v ∈ cs, v.oneCell' = true
  rel : ∀ (i : Nat) (v : Value) (p : PV), cs[i]? = some v → l[i]? = some p → VR w M σ L v p
theorem CR.mono {w M σ L w' M' σ' L'} (E : Ext w M σ L w' M' σ' L') {cs l} (h : CR w M σ L cs l) : CR w' M' σ' L' cs l := ⟨h.len, h.one, fun i v p hv hp => (h.rel i v p hv hp).mono E⟩
/-- A box's block: its element type, and its cells. -/
def Shp (g : Gh) (t : TypeId) (c : Array Value) : Prop := t = g.ty ∧ c.size = g.cap * g.sz ∧ g.cap ≤ maxLen
structure HR (w : World) (M0 : Nat → Nat → Prop) (σ : Nat → Gh) (H : Heap) : Prop where
  m0 : ∀ b o, M0 b o → b < w.heap.size
  sep : ∀ id, H id ≠ none → ∀ o, ¬ M0 (σ id).blk o
  inj : ∀ i j, H i ≠ none → H j ≠ none → (σ i).blk = (σ j).blk → i = j
  box : ∀ id l, H id = some (.box l) → (σ id).len = 0 ∧ ∃ (c : Array Value) (t : TypeId), w.heap[(σ id).blk]? = some (.cells c t (0, 0)) ∧ Shp (σ id) t c ∧ CR w (MU M0 σ H) σ (LV H) (c.toList.take l.length) l
  row : ∀ id e sz els, H id = some (.row e sz els) → 0 < els.length ∧ (σ id).len = els.length ∧ (∀ x ∈ els, x.length = sz) ∧ ∃ xs, w.ownsRow 0 e sz (.slice (some ⟨(σ id).blk, 0, none⟩) els.length (σ id).cap) els.length xs ∧ CR w (MU M0 σ H) σ (LV H) xs els.flatten
theorem HR.lt {w M0 σ H} (h : HR w M0 σ H) {id : Nat} (hid : H id ≠ none) : (σ id).blk < w.heap.size := by
  cases he : H id with
  | none => exact absurd he hid
  | some e =>
    cases e with
    | box l => obtain ⟨_, c, t, hg, _, _⟩ := h.box id l he; exact (Array.getElem?_eq_some_iff.1 hg).1
    | row e sz els => obtain ⟨_, _, _, xs, ho, _⟩ := h.row id e sz els he; exact (ho.lt _ rfl).2
theorem mu_lt {w M0 σ H} (h : HR w M0 σ H) {b o : Nat} (hm : MU M0 σ H b o) : b < w.heap.size := by
  rcases hm with hm | ⟨id, l, hl, rfl⟩ | ⟨id, e, sz, els, hl, rfl, _⟩
  · exact h.m0 b o hm
  · exact h.lt (by rw [hl]; simp)
  · exact h.lt (by rw [hl]; simp)
/-- The frame: from the state in which a call began. -/
structure Fr (w : World) (M0 : Nat → Nat → Prop) (σ : Nat → Gh) (H : Heap) (w' : World) (σ' : Nat → Gh) (H' : Heap) : Prop where
  os : w'.os = w.os
  tape : w'.tape = w.tape
  output : w'.output = w.output
  size : w.heap.size ≤ w'.heap.size
  block : ∀ b, b < w.heap.size → (∀ id, H id ≠ none → (σ id).blk ≠ b) → w'.heap[b]? = w.heap[b]?
  own : ∀ id, H' id ≠ none → w.heap.size ≤ (σ' id).blk ∨ ∃ j, H j ≠ none ∧ (σ j).blk = (σ' id).blk
  ext : Ext w (MU M0 σ H) σ (LV H) w' (MU M0 σ' H') σ' (LV H')
theorem Fr.refl (w M0 σ H) : Fr w M0 σ H w σ H := ⟨rfl, rfl, rfl, Nat.le_refl _, fun _ _ _ => rfl, fun id h => .inr ⟨id, h, rfl⟩, Ext.refl _ _ _ _⟩
theorem Fr.trans {w M0 σ H w' σ' H' w'' σ'' H''} (h : Fr w M0 σ H w' σ' H') (k : Fr w' M0 σ' H' w'' σ'' H'') : Fr w M0 σ H w'' σ'' H'' := by
  refine ⟨k.os.trans h.os, k.tape.trans h.tape, k.output.trans h.output, Nat.le_trans h.size k.size, fun b hb hn => ?_, fun id hid => ?_, h.ext.trans k.ext⟩
  · rw [k.block b (Nat.lt_of_lt_of_le hb h.size) (fun id hid e => ?_), h.block b hb hn]
    rcases h.own id hid with g | ⟨j, g1, g2⟩
    · omega
    · exact hn j g1 (g2.trans e)
  · rcases k.own id hid with g | ⟨j, g1, g2⟩
    · exact .inl (Nat.le_trans h.size g)
    · rcases h.own j g1 with g | ⟨i, e1, e2⟩
      · exact .inl (by omega)
      · exact .inr ⟨i, e1, e2.trans g2⟩
theorem cell_block {w w' : World} {b o : Nat} {v : Value} (h : w.cell? ⟨b, o, none⟩ = some v) (hb : w'.heap[b]? = w.heap[b]?) : w'.cell? ⟨b, o, none⟩ = some v := by
  rw [World.cell?_of_block (w := w) (a := ⟨b, o, none⟩) hb]; exact h
theorem block_of_cell {w : World} {b o : Nat} {v : Value} (h : w.cell? ⟨b, o, none⟩ = some v) : b < w.heap.size := World.block_lt_of_cell? w ⟨b, o, none⟩ h
/-- All that there was stays as it was. -/
theorem ext_all {w w' : World} {M0 σ H} (hb : ∀ b, b < w.heap.size → w'.heap[b]? = w.heap[b]?) : Ext w (MU M0 σ H) σ (LV H) w' (MU M0 σ H) σ (LV H) :=
  ⟨fun b o v h1 h2 => ⟨cell_block h1 (hb b (block_of_cell h1)), h2⟩, fun id h => ⟨h, .inl rfl⟩⟩
theorem ownsRow_block {w w' : World} {base e sz n : Nat} {g cap : Nat} {xs : List Value} (h : w.ownsRow base e sz (.slice (some ⟨g, 0, none⟩) n cap) n xs) (hb : w'.heap[g]? = w.heap[g]?) : w'.ownsRow base e sz (.slice (some ⟨g, 0, none⟩) n cap) n xs := by
  obtain ⟨h1, h2⟩ := h
  refine ⟨h1, ?_⟩
  rcases h2 with ⟨h2, _⟩ | ⟨g', cap', cur, e1, h3, h4, h5⟩
  · cases h2
  · injection e1 with e1 _ e3
    injection e1 with e1
    injection e1 with e1
    subst e1; subst e3
    exact .inr ⟨g, cap, cur, rfl, h3, hb.trans h4, h5⟩
theorem HR.all {w w' : World} {M0 σ H} (h : HR w M0 σ H) (hs : w.heap.size ≤ w'.heap.size) (hb : ∀ b, b < w.heap.size → w'.heap[b]? = w.heap[b]?) : HR w' M0 σ H := by
  have E : Ext w (MU M0 σ H) σ (LV H) w' (MU M0 σ H) σ (LV H) := ext_all hb
  refine ⟨fun b o hm => Nat.lt_of_lt_of_le (h.m0 b o hm) hs, h.sep, h.inj, fun id l hl => ?_, fun id e sz els hl => ?_⟩
  · obtain ⟨h1, c, t, h2, hsh, h3⟩ := h.box id l hl
    exact ⟨h1, c, t, (hb _ (h.lt (by rw [hl]; simp))).trans h2, hsh, h3.mono E⟩
  · obtain ⟨h1, h2, h3, xs, h4, h5⟩ := h.row id e sz els hl
    exact ⟨h1, h2, h3, xs, ownsRow_block h4 (hb _ (h.lt (by rw [hl]; simp))), h5.mono E⟩
theorem Fr.all {w w' : World} {M0 σ H} (h : Below w.heap.size w w') : Fr w M0 σ H w' σ H :=
  ⟨h.os, h.tape, h.output, h.size, fun b hb _ => h.block b hb, fun id hid => .inr ⟨id, hid, rfl⟩, ext_all h.block⟩
end Go.Proofs.Yteibeoipnjhicaa
