import Derived.Test.YteibeoipnjhicaaGreatEvr
import Derived.Maps.AppendAt
import Derived.Below
import Derived.Deep.Draws
import Derived.Deep.AppendLies
import Derived.OwnWalk
import Derived.Laws.Slices
import Derived.WalkKit
import Derived.KernelRfl
import Derived.RowKit3
import Derived.Deep.LoopGhost
import Derived.WideLaws
import Derived.Laws.BytesArg
import Derived.Laws.MakeOwn
import Derived.Laws.OwnMore
import Derived.Deep.OwnRows
import Derived.Tactics
import Derived.Lib.ConvBytes
import Derived.Deep.Quiet
import Derived.Deep.QuietTactic
import Derived.BigQuiet
import Derived.Laws.CopyRow
import Derived.Laws.IdiomCopy
import Derived.Lib.SliceRun
import Derived.Lib.AppendZerosOnto
import Derived.Lib.Overlaps
import Derived.Laws.NewBlocks
import Derived.Shelf.RegionOpenPlain
section
namespace Go.Proofs.YteibeoipnjhicaaGreat
open Go Go.RowKit
set_option linter.unusedVariables false
set_option linter.unusedSimpArgs false
inductive Fz (H : Heap) : PV → PV → Prop
  | same (p) (h : NoId p) : Fz H p p
  | bs (id n e0 z0 l els sz) (hid : H id = some (.box l)) (hn : els.length = n) (hs : ∀ e ∈ els, e.length = sz) (hl : els.flatten = l.take (n * sz)) (hb : ∀ p ∈ els.flatten, NoId p) : Fz H (.bs id n e0 z0) (.sl els)
  | bz : Fz H .bz (.sl [])
  | agg (l l') (hlen : l.length = l'.length) (h : ∀ (i : Nat) (p q : PV), l[i]? = some p → l'[i]? = some q → Fz H p q) : Fz H (.agg l) (.agg l')
  | tup (l l') (hlen : l.length = l'.length) (h : ∀ (i : Nat) (p q : PV), l[i]? = some p → l'[i]? = some q → Fz H p q) : Fz H (.tup l) (.tup l')
theorem fz_sound {w : World} {M0 : Nat → Nat → Prop} {σ : Nat → Gh} {H : Heap} (h : HR w M0 σ H) {M : Nat → Nat → Prop} {σ' : Nat → Gh} {L' : Nat → Prop} (hM : ∀ b o v, w.cell? ⟨b, o, none⟩ = some v → ¬ MU M0 σ H b o → ¬ M b o) (hown : ∀ id, H id ≠ none → ∀ o, ¬ M (σ id).blk o)
    {v : Value} {p q : PV} (hv : VV w M0 σ H v p) (hf : Fz H p q) : VR w M σ' L' v q := by
  induction hf generalizing v with
  | same p hn => exact hv.bd hM (fun _ h => h.elim) hn
  | bs id n e0 z0 l els sz hid hn hs hl hb =>
    subst hn
    cases hv with
    | bs _ _ _ _ hL h0 hc _ _ =>
      obtain ⟨_, c, t, hg, _, hcr⟩ := h.box id l hid
      have key : ∀ (q : Nat) (p : PV), els.flatten[q]? = some p → ∃ v, c[q]? = some v ∧ VV w M0 σ H v p ∧ v.oneCell' = true := fun q p hq => by
        have hq' : l[q]? = some p := by
          rw [hl, List.getElem?_take] at hq
          split at hq
          · exact hq
          · cases hq
        obtain ⟨v, hv, hr, h1⟩ := hcr.get hq'
        rw [List.getElem?_take] at hv
        split at hv
        · exact ⟨v, by rw [← Array.getElem?_toList]; exact hv, hr, h1⟩
        · cases hv
      refine .sl _ 0 sz _ els hc hs (fun q => (c[q]?).getD undef) (fun q p hq => ?_) (fun q p hq => ?_)
      · obtain ⟨v, hv, hr, h1⟩ := key q p hq
        rw [hv]
        refine ⟨?_, hown id (by rw [hid]; simp) _, h1⟩
        rw [Nat.zero_add, cell_of_row w _ q c t (0, 0) hg]; exact hv
      · obtain ⟨v, hv, hr, h1⟩ := key q p hq
        rw [hv]
        exact hr.bd hM (fun _ h => h.elim) (hb p (q4n hq))
  | bz => cases hv with | bz => exact .sl0 none 0
  | agg l l' hlen hh ih =>
    cases hv with
    | agg cs _ hl h1 hv =>
      refine .agg cs l' (hl.trans hlen) h1 (fun i v q hv' hq => ?_)
      have hi : i < l.length := by rw [hlen]; exact (List.getElem?_eq_some_iff.1 hq).1
      exact ih i _ q (List.getElem?_eq_getElem hi) hq (hv i v _ hv' (List.getElem?_eq_getElem hi))
  | tup l l' hlen hh ih =>
    cases hv with
    | tup cs _ hl hv =>
      refine .tup cs l' (hl.trans hlen) (fun i v q hv' hq => ?_)
      have hi : i < l.length := by rw [hlen]; exact (List.getElem?_eq_some_iff.1 hq).1
      exact ih i _ q (List.getElem?_eq_getElem hi) hq (hv i v _ hv' (List.getElem?_eq_getElem hi))
theorem pure_frz {P : Program} {f : FuncId} {args : List PV} {r : PV} (ha : BdL (fun _ => False) args) (h : CSat P f args (fun _ => none) 0 (fun out H' _ => ∃ r', out = .ret r' ∧ Fz H' r' r)) : Pure P f args r := by
  intro w M σ L vs hM hvl
  have hmu : ∀ (σ' : Nat → Gh) b o, MU M σ' (fun _ => none) b o ↔ M b o := fun σ' b o => by
    refine ⟨fun h => ?_, fun h => .inl h⟩
    rcases h with h | ⟨id, l, h1, _⟩ | ⟨id, e, sz, els, h1, _⟩
    · exact h
    · cases h1
    · cases h1
  have h0 : HR w M σ (fun _ => none) := ⟨hM, fun id h => absurd rfl h, fun i j h => absurd rfl h, fun id l h => (by cases h), fun id e sz els h => (by cases h)⟩
  refine (h w M σ vs h0 (fun _ _ => rfl) ⟨hvl.1, fun i v p hv hp => (hvl.2 i v p hv hp).bd (fun b o u _ h1 h2 => h1 ((hmu σ b o).1 h2)) (fun _ h => h.elim) (ha p (q4n hp))⟩).mono ?_
  rintro e w' ⟨out, H', m', σ', ⟨r', rfl, hz⟩, hr', hfree, _, hf, ho⟩
  cases e with
  | returned v =>
    refine ⟨v, rfl, ?_, ⟨hf.os, hf.tape, hf.output, hf.size, fun b hb => hf.block b hb (fun id h => absurd rfl h)⟩⟩
    exact fz_sound hr' (fun b o u _ h1 h2 => h1 (.inl h2)) (fun id hid o => hr'.sep id hid o) ho hz
  | panicked ch => exact ho.elim
  | outgrown => exact ho.elim
theorem pureF {P : Program} {f : FuncId} {fn : Func} {c : Code} {args : List PV} {r : PV} {rs : List ResultVar} (hm : P.follows .mixedOrders = true) (ha : BdL (fun _ => False) args) (hf : P.funcs[f]? = some fn) (hrs : fn.results = rs.toArray) (hb : fn.body = some c) (hn : args.length ≤ fn.ntmps)
    (hd : q6r fn.ntmps c = true) (h : q0i P 0 c (retQ P rs (fun out H' _ => ∃ r', out = .ret r' ∧ Fz H' r' r)) (q5n args) (fun _ => none) 0) : Pure P f args r := pure_frz ha (CSat_of_pw hm hf hb hn hd (by rw [hrs]; simpa using h))
theorem fz_bs {H : Heap} {id n e0 z0 : Nat} {l : List PV} {els : List (List PV)} (sz : Nat) (hid : H id = some (.box l)) (hn : els.length = n) (hs : ∀ e ∈ els, e.length = sz) (hl : els.flatten = l) (hb : Bd (fun _ => False) (.sl els)) : Fz H (.bs id n e0 z0) (.sl els) := by
  have hfl : els.flatten.length = n * sz := by rw [q2x hs, hn]
  refine .bs id n e0 z0 l els sz hid hn hs (by rw [← hl, ← hfl, List.take_length]) (fun p hp => ?_)
  obtain ⟨e, he, hpe⟩ := List.mem_flatten.1 hp
  cases hb with
  | sl _ hb => exact hb e he p hpe
end Go.Proofs.YteibeoipnjhicaaGreat
end

section
namespace Go.Proofs.YteibeoipnjhicaaGreat
open Go Go.RowKit Go.Shelf
set_option linter.unusedVariables false
set_option linter.unusedSimpArgs false
/-- An element's cells. -/
abbrev Cl (sz : Nat) := {cs : List Value // cs.length = sz ∧ ∀ v ∈ cs, v.oneCell' = true}
def flat {sz : Nat} (xs : List (Cl sz)) : List Value := xs.flatMap (·.1)
def RdC {sz : Nat} (w : World) (A : Option Addr) (l : List (Cl sz)) : Prop := 0 < l.length → ∃ ad, A = some ad ∧ ∀ j v, (flat l)[j]? = some v → w.cell? (ad.add j) = some v
theorem RdC.below {sz : Nat} {w w1 : World} {A : Option Addr} {l : List (Cl sz)} (h : RdC w A l) (hb : Below w.heap.size w w1) : RdC w1 A l := fun hl => by
  obtain ⟨ad, e, hc⟩ := h hl
  refine ⟨ad, e, fun j v hj => ?_⟩
  have := hc j v hj
  rw [World.cell?_of_block (w := w) (a := ad.add j) (hb.block _ (World.block_lt_of_cell? w _ this))]; exact this
/-- A row of one's own, of these elements. -/
def RowC {sz : Nat} (e : Nat) (w : World) (base : Nat) (v : Value) (l : List (Cl sz)) : Prop := w.ownsRow base e sz v l.length (flat l)
theorem blk_lt {w : World} {g : Nat} {o : Obj} (h : w.heap[g]? = some o) : g < w.heap.size := (Array.getElem?_eq_some_iff.1 h).1
theorem blk_alloc {w : World} {g : Nat} {o : Obj} (h : w.heap[g]? = some o) (o' : Obj) : (w.alloc o').heap[g]? = some o := (Below.heap_alloc w o' g (blk_lt h)).trans h
/-- A row that has been moved, or not. -/
def SameA (v v' : Value) : Prop := ∃ A n n' c, v = .slice A n c ∧ v' = .slice A n' c
def Mv (w w' : World) (v v' : Value) : Prop := (SameA v v' ∧ w.grownBy w' v.ownBlock) ∨ (v'.ownBlock = some w.heap.size ∧ Below w.heap.size w w')
theorem own_slice {w : World} {base e sz n : Nat} {v : Value} {xs : List Value} (h : w.ownsRow base e sz v n xs) : ∃ A c, v = .slice A n c := by
  rcases h.2 with ⟨rfl, rfl⟩ | ⟨g, cap, cur, rfl, _⟩
  · exact ⟨_, _, rfl⟩
  · exact ⟨_, _, rfl⟩
theorem gb_refl (w : World) (row : Option Nat) : w.grownBy w row := ⟨rfl, rfl, rfl, Nat.le_refl _, fun _ _ _ => rfl⟩
theorem gb_drew {w w1 : World} {row : Option Nat} (h : w.grownBy w1 row) : w.grownBy w1.drew row := ⟨h.os, h.tape, h.output, h.size, h.block⟩
theorem gb_setRow {w w1 : World} {row : Option Nat} (h : w.grownBy w1 row) (g : Nat) (cur : Array Value) (hg : row = some g ∨ w.heap.size ≤ g) : w.grownBy (w1.setRow g cur) row := by
  refine ⟨h.os, h.tape, h.output, by rw [setRow_size]; exact h.size, fun k hk hne => ?_⟩
  rw [setRow_other w1 g k cur (fun e => ?_)]
  · exact h.block k hk hne
  · subst e
    rcases hg with hg | hg
    · exact hne hg.symm
    · omega
section
variable {P : Program} {sz : Nat}
theorem flat_nil : flat ([] : List (Cl sz)) = [] := rfl
theorem q7e (x : Cl sz) (t : List (Cl sz)) : flat (x :: t) = x.1 ++ flat t := by simp [flat]
theorem q4z (a b : List (Cl sz)) : flat (a ++ b) = flat a ++ flat b := by simp [flat]
theorem q4q (xs : List (Cl sz)) : (flat xs).length = xs.length * sz := by
  induction xs with
  | nil => simp [flat]
  | cons x t ih => rw [q7e, List.length_append, x.2.1, ih, List.length_cons, Nat.add_mul, Nat.one_mul, Nat.add_comm]
theorem q9x (xs : List (Cl sz)) : ∀ v ∈ flat xs, v.oneCell' = true := by
  intro v hv
  unfold flat at hv
  obtain ⟨x, _, hx⟩ := List.mem_flatMap.1 hv
  exact x.2.2 v hx
theorem flat_take (xs : List (Cl sz)) (k : Nat) (hk : k ≤ xs.length) : (flat xs).take (k * sz) = flat (xs.take k) := by
  conv => lhs; rw [← List.take_append_drop k xs, q4z]
  rw [List.take_left' (by rw [q4q, List.length_take]; congr 1; omega)]
theorem flat_drop (xs : List (Cl sz)) (k : Nat) (hk : k ≤ xs.length) : (flat xs).drop (k * sz) = flat (xs.drop k) := by
  conv => lhs; rw [← List.take_append_drop k xs, q4z]
  rw [List.drop_left' (by rw [q4q, List.length_take]; congr 1; omega)]
/-- The row out of its block. -/
theorem flat_block {e : Nat} {w : World} {base g cap : Nat} {cur : Array Value} {xs : List (Cl sz)} (hb : base ≤ g) (hg : w.heap[g]? = some (.cells cur e (0, 0))) (hn : xs.length ≤ cap) (hm : cap ≤ maxLen) (hs : cur.size = cap * sz)
    (ht : cur.toList.take (xs.length * sz) = flat xs) : w.ownsRow base e sz (.slice (some ⟨g, 0, none⟩) xs.length cap) xs.length (flat xs) := ⟨q4q xs, .inr ⟨g, cap, cur, rfl, hb, hg, hn, hm, hs, ht⟩⟩
theorem C_flat {w : World} {A : Option Addr} {xs : List (Cl sz)} (h : RdC w A xs) (ad : Addr) (hA : A = some ad) : ∀ j v, (flat xs)[j]? = some v → w.cell? (ad.add j) = some v := fun j v hj => by
  rcases Nat.eq_zero_or_pos xs.length with h0 | h0
  · have : xs = [] := List.eq_nil_of_length_eq_zero h0
    subst this; simp [flat] at hj
  · obtain ⟨ad', e, hc⟩ := h h0
    obtain rfl : ad' = ad := by rw [hA] at e; exact (Option.some.inj e).symm
    exact hc j v hj
theorem copy_row (w : World) (dT sT ty elem : TypeId) (sz g o dLen dCap : Nat) (a : Addr) (sLen sCap : Nat) (cur : Array Value) (t : TypeId) (cs : List Value)
    (hu : P.underlying dT = some (.slice elem)) (hs : (P.info? elem).map (·.size) = some sz)
    (hg : w.heap[g]? = some (.cells cur t (0, 0))) (hn : cs.length = Nat.min sLen dLen * sz)
    (hsrc : ∀ j v, cs[j]? = some v → w.cell? (a.add j) = some v) (hfit : o + cs.length ≤ cur.size) (h1 : ∀ v ∈ cs, v.oneCell' = true) :
    (Builtin.copy_ #[dT, sT] ty #[.slice (some ⟨g, o, none⟩) dLen dCap, .slice (some a) sLen sCap]).run P w =
      .ok (goInt (Nat.min sLen dLen)) (w.setRow g (cur.toList.take o ++ cs ++ cur.toList.drop (o + cs.length)).toArray) := by
  have hl := run_loadCells_list (P := P) w a cs hsrc
  have hst := run_storeCells_at P g o t cs 0 cur w hg (by simpa using hfit) h1
  simp only [Nat.add_zero] at hst
  cases hq : P.info? elem with
  | none => simp [hq] at hs
  | some i =>
    have hi : i.size = sz := by simpa [hq] using hs
    rw [hn] at hl
    simp [Builtin.copy_, run_underlying hu, Builtin.lenOf, Builtin.firstCells, sizeOf, typeInfo, hq, hi, hl, hst]
/-- The row's cells once some of them are others. -/
theorem seg_take (cur : List Value) (o : Nat) (cs : List Value) (h : o + cs.length ≤ cur.length) (k : Nat) (hk : o + cs.length ≤ k) : (cur.take o ++ cs ++ cur.drop (o + cs.length)).take k = cur.take o ++ cs ++ (cur.take k).drop (o + cs.length) := by
  rw [List.take_append, List.take_of_length_le (by rw [List.length_append, List.length_take]; omega)]
  congr 1
  rw [List.length_append, List.length_take, List.drop_take]
  congr 1; omega
theorem seg_len (cur : List Value) (o : Nat) (cs : List Value) (h : o + cs.length ≤ cur.length) : (cur.take o ++ cs ++ cur.drop (o + cs.length)).length = cur.length := by
  simp only [List.length_append, List.length_take, List.length_drop]; omega
theorem seg_low (cur : List Value) (o : Nat) (cs : List Value) (h : o + cs.length ≤ cur.length) (k : Nat) (hk : k ≤ o) : (cur.take o ++ cs ++ cur.drop (o + cs.length)).take k = cur.take k := by
  rw [List.append_assoc, List.take_append_of_le_length (by rw [List.length_take]; omega), List.take_take]
  congr 1; omega
theorem step_copy {ops : Array Oper} {o : Oper} {a : Act} {w : World} {K : Act → World → Prop} {Q : Exit → Act → World → Prop} {E : Prop}
    (hg : o.guard = none) (x s : Operand) (dT sT : TypeId) (hop : o.op = Op.call { callee := Callee.builtin Builtin.copy, args := #[x, s], argTypes := #[dT, sT] })
    (v u : Value) (hd : a.eval x = v) (hx : a.eval s = u) {v' : Value} {w' : World} (hr : (Builtin.copy_ #[dT, sT] o.type #[v, u]).run P w = .ok v' w') (hK : K (a.put o.dst v') w') :
    if Region.wanted o (yielded ops a.tmps) = true then Oper.wp P o a w K Q else E := by
  have hw : Region.wanted o (yielded ops a.tmps) = true := by simp [Region.wanted, hg]
  rw [if_pos hw]
  unfold Oper.wp
  simp [execOp, hop, resolve, invoke, builtin, hd, hx, hr, Result.andThen]
  exact hK
theorem below_setRow {base : Nat} {w W : World} (h : Below base w W) (g : Nat) (cur : Array Value) (hb : base ≤ g) : Below base w (W.setRow g cur) :=
  ⟨h.os, h.tape, h.output, by simpa using h.size, fun i hi => (setRow_other W g i _ (by omega)).trans (h.block i hi)⟩
theorem append_types (t t' e e' ty : TypeId) (ht : P.underlying t = some (.slice e)) (ht' : P.underlying t' = some (.slice e')) (A : Option Addr) (n c : Nat) (y : Value) (w : World) : (Builtin.append_ #[t, t'] ty #[.slice A n c, y]).run P w = (Builtin.append_ #[t, t] ty #[.slice A n c, y]).run P w := by
  unfold Builtin.append_
  simp [run_underlying ht, run_underlying ht']
theorem q8j (w : World) (g : Nat) (cur cur' : Array Value) (t : TypeId) (fr : Nat × Nat) (hg : w.heap[g]? = some (.cells cur t fr)) : (w.setRow g cur').heap[g]? = some (.cells cur' t fr) := setRow_heap w g cur _ t _ hg
/-- The cells behind an insertion in place: the tail moved up, then the new element. -/
theorem insert_cells {cur : List Value} {l : List (Cl sz)} {x : Cl sz} {cap k : Nat} (hcl : cur.length = cap * sz) (hn : l.length + 1 ≤ cap) (ht : cur.take (l.length * sz) = flat l) (hk : k < l.length)
    {cur1 cur2 : List Value} (h1 : cur1 = cur.take ((k + 1) * sz) ++ flat (l.drop k) ++ cur.drop ((k + 1) * sz + (flat (l.drop k)).length)) (h2 : cur2 = cur1.take (k * sz) ++ x.1 ++ cur1.drop (k * sz + (x.1).length)) :
    (k + 1) * sz + (flat (l.drop k)).length ≤ cur.length ∧ cur1.length = cap * sz ∧ k * sz + (x.1).length ≤ cur1.length ∧ cur2.length = cap * sz ∧ cur2.take ((l.length + 1) * sz) = flat (l.take k ++ x :: l.drop k) := by
  have hfl : (flat (l.drop k)).length = (l.length - k) * sz := by rw [q4q, List.length_drop]
  have hx := x.2.1
  have e0 : (k + 1) * sz = k * sz + sz := Nat.succ_mul _ _
  have e1 : (k + 1) * sz + (l.length - k) * sz = (l.length + 1) * sz := by rw [← Nat.add_mul]; congr 1; omega
  have e3 : (l.length + 1) * sz ≤ cap * sz := Nat.mul_le_mul_right _ hn
  have e4 : k * sz ≤ l.length * sz := Nat.mul_le_mul_right _ (by omega)
  have hb1 : (k + 1) * sz + (flat (l.drop k)).length ≤ cur.length := by rw [hfl, hcl]; omega
  have hl1 : cur1.length = cap * sz := by rw [h1, seg_len _ _ _ hb1, hcl]
  have hb2 : k * sz + (x.1).length ≤ cur1.length := by rw [hx, hl1]; omega
  refine ⟨hb1, hl1, hb2, by rw [h2, seg_len _ _ _ hb2, hl1], ?_⟩
  rw [h2, seg_take _ _ _ hb2 _ (by rw [hx]; omega)]
  have e6 : cur1.take (k * sz) = flat (l.take k) := by
    rw [h1, seg_low _ _ _ hb1 _ (by omega), ← flat_take l k (by omega), ← ht, List.take_take]; congr 1; omega
  have e7 : (cur1.take ((l.length + 1) * sz)).drop (k * sz + (x.1).length) = flat (l.drop k) := by
    rw [h1, seg_take _ _ _ hb1 _ (by rw [hfl]; omega), hfl, e1, List.drop_of_length_le (i := (l.length + 1) * sz) (by rw [List.length_take]; omega), List.append_nil, hx, ← e0]
    rw [List.drop_left' (by rw [List.length_take]; omega)]
  rw [e6, e7, q4z, q7e, List.append_assoc]
/-- The cells of a new row behind an insertion: the head, the new element, the tail. -/
theorem grown_cells {row : List Value} {l : List (Cl sz)} {x : Cl sz} {cap k : Nat} (hcl : row.length = cap * sz) (hn : l.length + 1 ≤ cap) (hk : k < l.length) (ht : row.take (k * sz) = flat (l.take k))
    {cur1 cur2 : List Value} (h1 : cur1 = row.take (k * sz) ++ x.1 ++ row.drop (k * sz + (x.1).length)) (h2 : cur2 = cur1.take ((k + 1) * sz) ++ flat (l.drop k) ++ cur1.drop ((k + 1) * sz + (flat (l.drop k)).length)) :
    k * sz + (x.1).length ≤ row.length ∧ cur1.length = cap * sz ∧ (k + 1) * sz + (flat (l.drop k)).length ≤ cur1.length ∧ cur2.length = cap * sz ∧ cur2.take ((l.length + 1) * sz) = flat (l.take k ++ x :: l.drop k) := by
  have hfl : (flat (l.drop k)).length = (l.length - k) * sz := by rw [q4q, List.length_drop]
  have hx := x.2.1
  have e0 : (k + 1) * sz = k * sz + sz := Nat.succ_mul _ _
  have e1 : (k + 1) * sz + (l.length - k) * sz = (l.length + 1) * sz := by rw [← Nat.add_mul]; congr 1; omega
  have e3 : (l.length + 1) * sz ≤ cap * sz := Nat.mul_le_mul_right _ hn
  have e4 : (k + 1) * sz ≤ (l.length + 1) * sz := Nat.mul_le_mul_right _ (by omega)
  have hb1 : k * sz + (x.1).length ≤ row.length := by rw [hx, hcl]; omega
  have hl1 : cur1.length = cap * sz := by rw [h1, seg_len _ _ _ hb1, hcl]
  have hb2 : (k + 1) * sz + (flat (l.drop k)).length ≤ cur1.length := by rw [hfl, hl1]; omega
  refine ⟨hb1, hl1, hb2, by rw [h2, seg_len _ _ _ hb2, hl1], ?_⟩
  rw [h2, seg_take _ _ _ hb2 _ (by rw [hfl]; omega), hfl, e1, List.drop_of_length_le (i := (l.length + 1) * sz) (by rw [List.length_take]; omega), List.append_nil]
  rw [h1, seg_take _ _ _ hb1 _ (by rw [hx]; omega), hx, ← e0, List.drop_of_length_le (i := (k + 1) * sz) (by rw [List.length_take]; omega), List.append_nil, ht]
  rw [q4z, q7e, List.append_assoc]
/-- One element more, behind a row of one's own: in place, or in a new block. -/
theorem append_own2 (w : World) (base : Nat) (t e : TypeId) (i : TypeInfo) (z : Value) (ty : TypeId) (ht : P.underlying t = some (.slice e)) (hi : P.info? e = some i) (hz : i.zero = some z) (hzs : z.cells.size = i.size) (hpos : 0 < i.size)
    (v : Value) (n : Nat) (xs : List Value) (hown : w.ownsRow base e i.size v n xs) (hbase : base ≤ w.heap.size) (vb cv : Nat) (x : List Value) (hxl : x.length = i.size) (hx1 : ∀ u ∈ x, u.oneCell' = true) (hcell : ∀ j u, x[j]? = some u → w.cell? ((⟨vb, 0, none⟩ : Addr).add j) = some u)
    (hby : (n + 1) * i.bytes ≤ 140737488355328) (hml : n + 1 ≤ maxLen) :
    ∃ v' w', (Builtin.append_ #[t, t] ty #[v, .slice (some ⟨vb, 0, none⟩) 1 cv]).run P w = .ok v' w' ∧ w'.ownsRow base e i.size v' (n + 1) (xs ++ x) ∧
      ((SameA v v' ∧ w.grownBy w' v.ownBlock) ∨ (v'.ownBlock = some w.heap.size ∧ Below w.heap.size w w')) := by
  have h63 : n + 1 ≤ 9223372036854775807 := by simp only [maxLen] at hml; omega
  have hsrc : Src P i.size t (.slice (some ⟨vb, 0, none⟩) 1 cv) 1 x w := Src.ofSlice w ht ⟨vb, 0, none⟩ 1 cv x (by rw [hxl]; simp) hcell hx1
  have grown : ∀ (A : Option Addr) (cap : Nat), v = .slice A n cap → cap < n + 1 → (Builtin.firstCells i.size n v).run P w.drew = .ok xs.toArray w.drew → ∃ v' w', (Builtin.append_ #[t, t] ty #[v, .slice (some ⟨vb, 0, none⟩) 1 cv]).run P w = .ok v' w' ∧ w'.ownsRow base e i.size v' (n + 1) (xs ++ x) ∧
      ((SameA v v' ∧ w.grownBy w' v.ownBlock) ∨ (v'.ownBlock = some w.heap.size ∧ Below w.heap.size w w')) := by
    rintro A cap rfl hcap hold
    have hgr := run_append_grow_src (P := P) w t t ty e i z ht hi hz A n cap xs hold _ 1 x hsrc hcap (by omega) (growslice_fits (by omega) hby)
    have hbel : Below w.heap.size w (w.drew.alloc (.cells ((xs ++ x).toArray ++ Builtin.zeroCells z.cells (grownCap w (n + 1) cap e - (n + 1))) e)) := (Below.refl _ _).drew.alloc (by simp) _
    have hl2 : (xs ++ x).length = (n + 1) * i.size := by rw [List.length_append, hown.1, hxl, Nat.add_mul, Nat.one_mul]
    have hge := grownCap_ge w (n + 1) cap e
    refine ⟨_, _, hgr, ⟨hl2, .inr ⟨w.heap.size, grownCap w (n + 1) cap e, _, rfl, hbase, heap_alloc_new w.drew _, hge, grownCap_le_maxLen w (n + 1) cap e hml, ?_, ?_⟩⟩, .inr ⟨rfl, hbel⟩⟩
    · simp only [Array.size_append, List.size_toArray, size_zeroCells, hzs, hl2, ← Nat.add_mul]
      congr 1
      omega
    · simp only [Array.toList_append]
      rw [← hl2]
      exact List.take_left
  rcases hown.2 with ⟨rfl, rfl⟩ | ⟨g, cap, cur, rfl, hg0, hg, hnc, hcm, hcs, htake⟩
  · have : xs = [] := List.eq_nil_of_length_eq_zero (by have := hown.1; simpa using this)
    subst this
    exact grown none 0 rfl (by omega) (by simp [Builtin.firstCells, loadCells, loadCellsFrom])
  · by_cases hroom : n + 1 ≤ cap
    · have hfit : n * i.size + x.length ≤ cur.size := by rw [hxl, hcs, ← Nat.succ_mul]; exact Nat.mul_le_mul_right _ hroom
      have hr := Go.run_append_room (P := P) w t ty e i ht hi g n cap cur hg ⟨vb, 0, none⟩ 1 cv x (by rw [hxl]; simp) hcell hx1 hroom hfit
      have hl2 : (xs ++ x).length = (n + 1) * i.size := by rw [List.length_append, hown.1, hxl, Nat.add_mul, Nat.one_mul]
      refine ⟨_, _, hr, ⟨hl2, .inr ⟨g, cap, _, rfl, hg0, setRow_heap w g cur _ e (0, 0) hg, hroom, hcm, ?_, ?_⟩⟩, .inl ⟨⟨_, _, _, _, rfl, rfl⟩, gb_setRow (gb_refl _ _) g _ (.inl rfl)⟩⟩
      · simp only [List.size_toArray, List.length_append, List.length_take, List.length_drop, Array.length_toList]; omega
      · rw [← hl2, htake]; exact List.take_left
    · refine grown (some ⟨g, 0, none⟩) cap rfl (by omega) ?_
      refine run_firstCells_some w.drew i.size n ⟨g, 0, none⟩ n cap xs hown.1 (fun j u hj => ?_)
      rw [Addr.add_lit, Nat.zero_add, cell_of_row _ g _ cur _ _ (show w.drew.heap[g]? = some (.cells cur e (0, 0)) from hg)]
      rw [← htake, List.getElem?_take] at hj
      split at hj
      · rw [Array.getElem?_toList] at hj; exact hj
      · cases hj
end
end Go.Proofs.YteibeoipnjhicaaGreat
end

section
namespace Go.Proofs.YteibeoipnjhicaaGreat
open Go Go.RowKit
set_option linter.unusedVariables false
set_option linter.unusedSimpArgs false
section
variable {P : Program} {fn T sz : Nat}
theorem cells_rows : ∀ (n : Nat) (cs : List Value), cs.length = n * sz → (∀ v ∈ cs, v.oneCell' = true) → ∃ l : List (Cl sz), l.length = n ∧ flat l = cs
  | 0, cs, h, _ => by
    have : cs = [] := List.eq_nil_of_length_eq_zero (by simpa using h)
    subst this; exact ⟨[], rfl, rfl⟩
  | n + 1, cs, h, h1 => by
    rw [Nat.succ_mul] at h
    obtain ⟨l, hl, hf⟩ := cells_rows n (cs.drop sz) (by rw [List.length_drop]; omega) (fun v hv => h1 v (List.mem_of_mem_drop hv))
    refine ⟨⟨cs.take sz, by rw [List.length_take]; omega, fun v hv => h1 v (List.mem_of_mem_take hv)⟩ :: l, by simp [hl], ?_⟩
    rw [q7e, hf, List.take_append_drop]
theorem vl_one {w : World} {M σ L} {vs : List Value} {p : PV} (h : VL w M σ L vs [p]) : ∃ v, vs = [v] ∧ VR w M σ L v p := by
  obtain ⟨h1, h2⟩ := h
  match vs, h1 with
  | [v], _ => exact ⟨v, rfl, h2 0 v p rfl rfl⟩
theorem vl_three {w : World} {M σ L} {vs : List Value} {p q r : PV} (h : VL w M σ L vs [p, q, r]) : ∃ a b c, vs = [a, b, c] ∧ VR w M σ L a p ∧ VR w M σ L b q ∧ VR w M σ L c r := by
  obtain ⟨h1, h2⟩ := h
  match vs, h1 with
  | [a, b, c], _ => exact ⟨a, b, c, rfl, h2 0 a p rfl rfl, h2 1 b q rfl rfl, h2 2 c r rfl rfl⟩
def CloneC (P : Program) (fn T sz : Nat) : Prop := ∀ (l : List (Cl sz)) (A : Option Addr) (c : Nat) (w : World), RdC w A l → l.length ≤ c → l.length ≤ 1000000 →
  Calls P fn #[.slice A l.length c] w fun e w' => ∃ v, e = .returned v ∧ RowC T w' w.heap.size v l ∧ Below w.heap.size w w'
/-- The cells that a slice is of. -/
theorem rows_of {w : World} {M0 : Nat → Nat → Prop} {σ : Nat → Gh} {H : Heap} {v : Value} {els : List (List PV)} (hv : VV w M0 σ H v (.sl els)) (hs : ∀ e ∈ els, e.length = sz) :
    ∃ (A : Option Addr) (c : Nat) (l : List (Cl sz)), v = .slice A els.length c ∧ els.length ≤ c ∧ l.length = els.length ∧ RdC w A l ∧ CR w (MU M0 σ H) σ (LV H) (flat l) els.flatten := by
  rcases q6b hv with ⟨rfl, A, cap, rfl⟩ | ⟨b, o, sz', cap, f, rfl, hc, hs', hcell, hh⟩
  · exact ⟨A, cap, [], rfl, Nat.zero_le _, rfl, fun h => absurd h (Nat.lt_irrefl 0), ⟨rfl, fun v hv => (List.not_mem_nil hv).elim, fun i v p hv => by simp [flat] at hv⟩⟩
  · obtain ⟨c1, c2⟩ := cr_flat (sz := sz') hcell hh
    obtain ⟨l, hl, hf⟩ := cells_rows (sz := sz) els.length _ (by rw [c1.len, q2x hs]) c1.one
    refine ⟨_, cap, l, rfl, hc, hl, fun _ => ⟨_, rfl, fun j v hj => ?_⟩, by rw [hf]; exact c1⟩
    rw [hf] at hj
    rw [Addr.add_lit]; exact c2 j v hj
theorem clone_csat (hcl : CloneC P fn T sz) {els : List (List PV)} (hs : ∀ e ∈ els, e.length = sz) (hlen : els.length ≤ 1000000) (H : Heap) (m : Nat) : CSat P fn [.sl els] H m (fun out H' m' =>
    (els = [] ∧ out = .ret .bz ∧ H' = H ∧ m' = m) ∨ (out = .ret (.bs m els.length T sz) ∧ H' = hset H m (some (.box els.flatten)) ∧ m' = m + 1)) := by
  intro w M0 σ vs hr hfree hvl
  obtain ⟨v, rfl, hv⟩ := vl_one hvl
  obtain ⟨A, c, l, rfl, hc, hl, hrd, hcr⟩ := rows_of (sz := sz) hv hs
  rw [← hl] at hc ⊢
  refine (hcl l A c w hrd hc (by omega)).mono ?_
  rintro e w' ⟨v, rfl, ho, hb⟩
  have hm : H m = none := hfree m (Nat.le_refl _)
  rcases ho.2 with ⟨rfl, h0⟩ | ⟨g, cap, cur, rfl, hg0, hg, hnc, hcm, hcs, htake⟩
  · have hels : els = [] := List.eq_nil_of_length_eq_zero (by omega)
    exact ⟨.ret .bz, H, m, σ, .inl ⟨hels, rfl, rfl, rfl⟩, hr.all hb.size hb.block, hfree, Nat.le_refl _, Fr.all hb, .bz⟩
  · have hgl : g < w'.heap.size := blk_lt hg
    have hmore := hr.more hb hm (.box els.flatten) ⟨g, cap, 0, T, sz⟩ hg0 hgl (fun l' hl' => by
      cases hl'
      refine ⟨rfl, cur, T, hg, ⟨rfl, hcs, hcm⟩, ?_⟩
      rw [← hcr.len, q4q, htake]; exact hcr) (fun e sz els hl => by cases hl)
    refine ⟨.ret (.bs m l.length T sz), hset H m (some (.box els.flatten)), m + 1, gset σ m ⟨g, cap, 0, T, sz⟩, .inr ⟨rfl, rfl, rfl⟩, hmore.1, fun i hi => by rw [q2l _ _ (by omega)]; exact hfree i (by omega), by omega, hmore.2, ?_⟩
    have := VR.bs (w := w') (M := MU M0 (gset σ m ⟨g, cap, 0, T, sz⟩) (hset H m (some (.box els.flatten)))) (σ := gset σ m ⟨g, cap, 0, T, sz⟩) (L := LV (hset H m (some (.box els.flatten)))) m l.length T sz (q5x _) (by rw [q2k]) (by rw [q2k]; exact hnc) (by rw [q2k]) (by rw [q2k])
    rw [q2k] at this
    exact this
theorem clone_pure (hcl : CloneC P fn T sz) {els : List (List PV)} (hs : ∀ e ∈ els, e.length = sz) (hlen : els.length ≤ 1000000) (hb : Bd (fun _ => False) (.sl els)) : Pure P fn [.sl els] (.sl els) := by
  refine pure_frz (by simp only [go_sem]; exact hb) ((clone_csat hcl hs hlen _ _).mono ?_)
  rintro out H' m' (⟨rfl, rfl, rfl, rfl⟩ | ⟨rfl, rfl, rfl⟩)
  · exact ⟨_, rfl, .bz⟩
  · exact ⟨_, rfl, fz_bs sz (q2s _ _ _) rfl hs rfl hb⟩
/-- A box whose block has been turned otherwise. -/
theorem HR.turn {w : World} {M0 : Nat → Nat → Prop} {σ : Nat → Gh} {H : Heap} (h : HR w M0 σ H) {id : Nat} {l : List PV} (hid : H id = some (.box l)) {w' : World} (hgr : w.grownBy w' (some (σ id).blk)) {c' : Array Value} {t : TypeId} (hc : w'.heap[(σ id).blk]? = some (.cells c' t (0, 0))) {l' : List PV} (hsh : Shp (σ id) t c')
    (hcr : CR w (MU M0 σ H) σ (LV H) (c'.toList.take l'.length) l') : HR w' M0 σ (hset H id (some (.box l'))) ∧ Fr w M0 σ H w' σ (hset H id (some (.box l'))) := by
  have hne : H id ≠ none := by rw [hid]; simp
  have hiff : ∀ i, hset H id (some (.box l')) i ≠ none ↔ H i ≠ none := fun i => by
    by_cases e : i = id
    · subst e; rw [q2s]; simp [hid]
    · rw [q2l _ _ e]
  have hmu : ∀ b o, MU M0 σ (hset H id (some (.box l'))) b o → MU M0 σ H b o := by
    rintro b o (h1 | ⟨i, l1, h1, h2⟩ | ⟨i, e, sz, els, h1, h2, h3⟩)
    · exact .inl h1
    · by_cases e : i = id
      · subst e; exact .inr (.inl ⟨i, l, hid, h2⟩)
      · rw [q2l _ _ e] at h1; exact .inr (.inl ⟨i, l1, h1, h2⟩)
    · by_cases e' : i = id
      · subst e'; rw [q2s] at h1; cases h1
      · rw [q2l _ _ e'] at h1; exact .inr (.inr ⟨i, e, sz, els, h1, h2, h3⟩)
  have hoth : ∀ b, b < w.heap.size → b ≠ (σ id).blk → w'.heap[b]? = w.heap[b]? := fun b hb hn => hgr.block b hb (fun e => hn (Option.some.inj e))
  have E : Ext w (MU M0 σ H) σ (LV H) w' (MU M0 σ (hset H id (some (.box l')))) σ (LV (hset H id (some (.box l')))) := by
    refine ⟨fun b o v h1 h2 => ⟨q6d h1 (hoth b (q5b h1) (fun e => h2 ?_)), fun h3 => h2 (hmu b o h3)⟩, fun i hi => ⟨(hiff i).2 hi, .inl rfl⟩⟩
    subst e
    exact .inr (.inl ⟨id, l, hid, rfl⟩)
  refine ⟨⟨fun b o hm0 => Nat.lt_of_lt_of_le (h.m0 b o hm0) hgr.size, fun i hi => h.sep i ((hiff i).1 hi), fun i j hi hj => h.inj i j ((hiff i).1 hi) ((hiff j).1 hj), fun i l1 hl1 => ?_, fun i e sz els hl1 => ?_⟩,
    ⟨hgr.os, hgr.tape, hgr.output, hgr.size, fun b hb hn => hoth b hb (fun e => hn id hne e.symm), fun i hi => .inr ⟨i, (hiff i).1 hi, rfl⟩, E⟩⟩
  · by_cases e : i = id
    · subst e
      rw [q2s] at hl1
      cases hl1
      exact ⟨(h.box i l hid).1, c', t, hc, hsh, hcr.mono E⟩
    · rw [q2l _ _ e] at hl1
      obtain ⟨h1, c1, t1, h2, hs1, h3⟩ := h.box i l1 hl1
      exact ⟨h1, c1, t1, (hoth _ (h.lt (by rw [hl1]; simp)) (ne_blk h (by rw [hl1]; simp) hne e)).trans h2, hs1, h3.mono E⟩
  · by_cases e' : i = id
    · subst e'; rw [q2s] at hl1; cases hl1
    · rw [q2l _ _ e'] at hl1
      obtain ⟨h1, h2, h3, xs, h4, h5⟩ := h.row i e sz els hl1
      exact ⟨h1, h2, h3, xs, q5m h4 (hoth _ (h.lt (by rw [hl1]; simp)) (ne_blk h (by rw [hl1]; simp) hne e')), h5.mono E⟩
def InsertC (P : Program) (fn T sz : Nat) : Prop := ∀ (l : List (Cl sz)) (v : Value) (k : Nat) (x : Cl sz) (vb cv base : Nat) (w : World), RowC T w base v l → k ≤ l.length → ∀ {cx : Array Value} {tx : TypeId}, w.heap[vb]? = some (.cells cx tx (0, 0)) → (∀ (j : Nat) (u : Value), x.1[j]? = some u → cx[j]? = some u) → v.ownBlock ≠ some vb → base ≤ w.heap.size → l.length ≤ 1000000 →
  Calls P fn #[v, .int .i64 k, .slice (some ⟨vb, 0, none⟩) 1 cv] w fun e w' => ∃ v', e = .returned v' ∧ RowC T w' base v' (l.take k ++ x :: l.drop k) ∧ Mv w w' v v'
theorem ftake {els : List (List PV)} (hs : ∀ e ∈ els, e.length = sz) (k : Nat) (hk : k ≤ els.length) : (els.take k).flatten = els.flatten.take (k * sz) := by
  have hfl : (els.take k).flatten.length = k * sz := by rw [q2x (sz := sz) (fun e he => hs e (List.mem_of_mem_take he)), List.length_take, Nat.min_eq_left hk]
  conv => rhs; rw [← List.take_append_drop k els, List.flatten_append]
  rw [List.take_left' hfl]
theorem fdrop {els : List (List PV)} (hs : ∀ e ∈ els, e.length = sz) (k : Nat) (hk : k ≤ els.length) : (els.drop k).flatten = els.flatten.drop (k * sz) := by
  have hfl : (els.take k).flatten.length = k * sz := by rw [q2x (sz := sz) (fun e he => hs e (List.mem_of_mem_take he)), List.length_take, Nat.min_eq_left hk]
  conv => rhs; rw [← List.take_append_drop k els, List.flatten_append]
  rw [List.drop_left' hfl]
theorem CR.dropN {w M σ L} {cs : List Value} {l : List PV} (h : CR w M σ L cs l) (n : Nat) : CR w M σ L (cs.drop n) (l.drop n) := by
  have := h.cut n l.length
  rw [List.take_of_length_le (by rw [List.length_drop, h.len]; omega), List.take_of_length_le (by rw [List.length_drop]; omega)] at this
  exact this
theorem CR.takeN {w M σ L} {cs : List Value} {l : List PV} (h : CR w M σ L cs l) (n : Nat) : CR w M σ L (cs.take n) (l.take n) := by
  have := h.cut 0 n
  simpa using this
/-- An own slice, as a row of cells. -/
theorem row_of_bs {w : World} {M0 : Nat → Nat → Prop} {σ : Nat → Gh} {H : Heap} (hr : HR w M0 σ H) {id : Nat} {els : List (List PV)} (hid : H id = some (.box els.flatten)) (hs : ∀ e ∈ els, e.length = sz) {v : Value} (hv : VV w M0 σ H v (.bs id els.length T sz)) :
    ∃ (l : List (Cl sz)) (cur : Array Value), v = .slice (some ⟨(σ id).blk, 0, none⟩) els.length (σ id).cap ∧ l.length = els.length ∧ RowC T w 0 v l ∧ (σ id).ty = T ∧ (σ id).sz = sz ∧ w.heap[(σ id).blk]? = some (.cells cur T (0, 0)) ∧ CR w (MU M0 σ H) σ (LV H) (flat l) els.flatten := by
  cases hv with
  | bs _ _ _ _ hL h0 hc hty hsz =>
    obtain ⟨_, cur, t, hg, ⟨rfl, hcs, hcm⟩, hcr⟩ := hr.box id _ hid
    have hfl := q2x hs
    obtain ⟨l, hl, hf⟩ := cells_rows (sz := sz) els.length (cur.toList.take els.flatten.length) (by rw [hcr.len, hfl]) hcr.one
    refine ⟨l, cur, rfl, hl, ⟨q4q l, .inr ⟨(σ id).blk, (σ id).cap, cur, by rw [hl], Nat.zero_le _, by rw [← hty]; exact hg, by rw [hl]; exact hc, hcm, by rw [hcs, hsz], by rw [hf, hfl, hl]⟩⟩, hty, hsz, by rw [← hty]; exact hg, by rw [hf]; exact hcr⟩
theorem insert_csat (hin : InsertC P fn T sz) {els : List (List PV)} (hs : ∀ e ∈ els, e.length = sz) (hlen : els.length ≤ 1000000) {k : Nat} (hk : k ≤ els.length) {xe : List PV} (hxe : xe.length = sz) {H : Heap} {m id ix e1 z1 : Nat} (hid : H id = some (.box els.flatten)) (hix : H ix = some (.box xe)) (hne : ix ≠ id) :
    CSat P fn [.bs id els.length T sz, .int .i64 k, .bs ix 1 e1 z1] H m (fun out H' m' =>
      (out = .ret (.bs id (els.take k ++ xe :: els.drop k).length T sz) ∧ H' = hset H id (some (.box (els.take k ++ xe :: els.drop k).flatten)) ∧ m' = m) ∨
      (out = .ret (.bs m (els.take k ++ xe :: els.drop k).length T sz) ∧ H' = hset H m (some (.box (els.take k ++ xe :: els.drop k).flatten)) ∧ m' = m + 1)) := by
  intro w M0 σ vs hr hfree hvl
  obtain ⟨v, u1, u2, rfl, hv, hu1, hu2⟩ := vl_three hvl
  cases hu1
  obtain ⟨l, cur, rfl, hl, hrow, hty, hsz, hg, hcr⟩ := row_of_bs (T := T) hr hid hs hv
  cases hu2 with
  | bs _ _ _ _ hL2 h02 hc2 hty2 hsz2 =>
    obtain ⟨_, cx, tx, hgx, hshx, hcrx⟩ := hr.box ix _ hix
    have hxl : (cx.toList.take xe.length).length = sz := by rw [hcrx.len, hxe]
    refine (hin l _ k ⟨cx.toList.take xe.length, hxl, hcrx.one⟩ (σ ix).blk _ 0 w hrow (by omega) hgx (fun j u hj => ?_) ?_ (Nat.zero_le _) (by omega)).mono ?_
    · simp only at hj
      rw [List.getElem?_take] at hj
      split at hj
      · rw [Array.getElem?_toList] at hj; exact hj
      · cases hj
    · intro e
      have : (σ id).blk = (σ ix).blk := by simpa [Value.ownBlock] using e
      exact hne (hr.inj ix id (by rw [hix]; simp) (by rw [hid]; simp) this.symm)
    rintro e w' ⟨v', rfl, hrow', hmv⟩
    obtain ⟨ins, hins⟩ : ∃ ins, ins = els.take k ++ xe :: els.drop k := ⟨_, rfl⟩
    obtain ⟨li, hli⟩ : ∃ li, li = l.take k ++ ⟨cx.toList.take xe.length, hxl, hcrx.one⟩ :: l.drop k := ⟨_, rfl⟩
    rw [← hins]
    rw [← hli] at hrow'
    have hes : ins.length = li.length := by rw [hins, hli]; simp only [List.length_append, List.length_cons, List.length_take, List.length_drop, hl]
    have hse : ∀ e ∈ ins, e.length = sz := fun e he => by
      rw [hins] at he
      rcases List.mem_append.1 he with he | he
      · exact hs e (List.mem_of_mem_take he)
      · rcases List.mem_cons.1 he with rfl | he
        · exact hxe
        · exact hs e (List.mem_of_mem_drop he)
    have hcr2 : CR w (MU M0 σ H) σ (LV H) (flat li) ins.flatten := by
      rw [hli, hins, q4z, q7e, List.flatten_append, List.flatten_cons, ← flat_take l k (by omega), ← flat_drop l k (by omega), ftake hs k (by omega), fdrop hs k (by omega)]
      exact (hcr.takeN _).append (hcrx.append (hcr.dropN _))
    have hm : H m = none := hfree m (Nat.le_refl _)
    rcases hrow'.2 with ⟨h0, h00⟩ | ⟨g', cap', cur', rfl, _, hg', hn', hm', hs', ht'⟩
    · exfalso
      rw [hli] at h00
      simp at h00
    · rcases hmv with ⟨⟨A, n, n', c, e1, e5⟩, hgr⟩ | ⟨hown, hb⟩
      · injection e1 with e2 e3 e4
        subst e2; subst e4
        injection e5 with e6 e7 e8
        injection e6 with e6; injection e6 with e6
        subst e6; subst e8
        have hT := hr.turn hid (by simpa [Value.ownBlock] using hgr) (c' := cur') (t := T) hg' (l' := ins.flatten) ⟨hty.symm, by rw [hs', hsz], hm'⟩ (by rw [q2x hse, hes, ht']; exact hcr2)
        refine ⟨_, _, m, σ, .inl ⟨rfl, rfl, rfl⟩, hT.1, fun i hi => ?_, Nat.le_refl _, hT.2, ?_⟩
        · have : i ≠ id := fun e => by subst e; rw [hfree i hi] at hid; cases hid
          rw [q2l _ _ this]; exact hfree i hi
        · rw [← hes]
          exact .bs id _ T sz (q5x _) (hr.box id _ hid).1 (by rw [hes]; exact hn') hty hsz
      · have hgw : g' = w.heap.size := by simpa [Value.ownBlock] using hown
        subst hgw
        have hmore := hr.more hb hm (.box ins.flatten) ⟨w.heap.size, cap', 0, T, sz⟩ (Nat.le_refl _) (blk_lt hg') (fun l' hl' => by
          cases hl'
          refine ⟨rfl, cur', T, hg', ⟨rfl, hs', hm'⟩, ?_⟩
          rw [q2x hse, hes, ht']; exact hcr2) (fun e sz els hl => by cases hl)
        refine ⟨_, _, m + 1, gset σ m ⟨w.heap.size, cap', 0, T, sz⟩, .inr ⟨rfl, rfl, rfl⟩, hmore.1, fun i hi => by rw [q2l _ _ (by omega)]; exact hfree i (by omega), by omega, hmore.2, ?_⟩
        have := VR.bs (w := w') (M := MU M0 (gset σ m ⟨w.heap.size, cap', 0, T, sz⟩) (hset H m (some (.box ins.flatten)))) (σ := gset σ m ⟨w.heap.size, cap', 0, T, sz⟩) (L := LV (hset H m (some (.box ins.flatten)))) m ins.length T sz (q5x _) (by rw [q2k]) (by rw [q2k, hes]; exact hn') (by rw [q2k]) (by rw [q2k])
        rw [q2k] at this
        rw [← hes]
        exact this
/-- Into nothing. -/
theorem insert0_csat (hin : InsertC P fn T sz) {xe : List PV} (hxe : xe.length = sz) {H : Heap} {m ix e1 z1 : Nat} (hix : H ix = some (.box xe)) :
    CSat P fn [.bz, .int .i64 ((0 : Nat) : Int), .bs ix 1 e1 z1] H m (fun out H' m' => out = .ret (.bs m 1 T sz) ∧ H' = hset H m (some (.box [xe].flatten)) ∧ m' = m + 1) := by
  intro w M0 σ vs hr hfree hvl
  obtain ⟨v, u1, u2, rfl, hv, hu1, hu2⟩ := vl_three hvl
  cases hu1
  cases hv with
  | bz =>
  cases hu2 with
  | bs _ _ _ _ hL2 h02 hc2 hty2 hsz2 =>
    obtain ⟨_, cx, tx, hgx, hshx, hcrx⟩ := hr.box ix _ hix
    have hxl : (cx.toList.take xe.length).length = sz := by rw [hcrx.len, hxe]
    refine (hin [] (.slice none 0 0) 0 ⟨cx.toList.take xe.length, hxl, hcrx.one⟩ (σ ix).blk _ 0 w ⟨by simp [flat], .inl ⟨rfl, rfl⟩⟩ (Nat.le_refl _) hgx (fun j u hj => ?_) (by simp [Value.ownBlock]) (Nat.zero_le _) (by simp)).mono ?_
    · simp only at hj
      rw [List.getElem?_take] at hj
      split at hj
      · rw [Array.getElem?_toList] at hj; exact hj
      · cases hj
    rintro e w' ⟨v', rfl, hrow', hmv⟩
    have hm : H m = none := hfree m (Nat.le_refl _)
    rcases hrow'.2 with ⟨h0, h00⟩ | ⟨g', cap', cur', rfl, _, hg', hn', hm', hs', ht'⟩
    · simp at h00
    · rcases hmv with ⟨⟨A, n, n', c, e1, e5⟩, hgr⟩ | ⟨hown, hb⟩
      · injection e1 with e2 e3 e4
        subst e2
        cases e5
      · have hgw : g' = w.heap.size := by simpa [Value.ownBlock] using hown
        subst hgw
        have hmore := hr.more hb hm (.box [xe].flatten) ⟨w.heap.size, cap', 0, T, sz⟩ (Nat.le_refl _) (blk_lt hg') (fun l' hl' => by
          cases hl'
          refine ⟨rfl, cur', T, hg', ⟨rfl, hs', hm'⟩, ?_⟩
          have h1 : [xe].flatten.length = sz := by simp [hxe]
          have h2 : [xe].flatten = xe := by simp
          simp only [List.take_nil, List.nil_append, List.drop_nil, List.length_cons, List.length_nil, Nat.zero_add, Nat.one_mul] at ht'
          rw [h1, h2, ht', q7e, flat_nil, List.append_nil]
          exact hcrx) (fun e sz els hl => by cases hl)
        refine ⟨_, _, m + 1, gset σ m ⟨w.heap.size, cap', 0, T, sz⟩, ⟨rfl, rfl, rfl⟩, hmore.1, fun i hi => by rw [q2l _ _ (by omega)]; exact hfree i (by omega), by omega, hmore.2, ?_⟩
        have := VR.bs (w := w') (M := MU M0 (gset σ m ⟨w.heap.size, cap', 0, T, sz⟩) (hset H m (some (.box [xe].flatten)))) (σ := gset σ m ⟨w.heap.size, cap', 0, T, sz⟩) (L := LV (hset H m (some (.box [xe].flatten)))) m 1 T sz (q5x _) (by rw [q2k]) (by rw [q2k]; simpa using hn') (by rw [q2k]) (by rw [q2k])
        rw [q2k] at this
        exact this
end
end Go.Proofs.YteibeoipnjhicaaGreat
end
