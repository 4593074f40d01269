import Derived.Test.YteibeoipnjhicaaGreatEvr
import Derived.Maps.AppendAt
import Derived.Below
import Derived.Deep.Draws
import Derived.Deep.AppendLies
import Derived.OwnWalk
import Derived.Laws.Slices
import Derived.WalkKit
import Derived.KernelRfl
import Derived.RowKit3
import Derived.Deep.LoopGhost
import Derived.WideLaws
import Derived.Laws.BytesArg
import Derived.Laws.MakeOwn
import Derived.Laws.OwnMore
import Derived.Deep.OwnRows
import Derived.Tactics
import Derived.Lib.ConvBytes
import Derived.Deep.Quiet
import Derived.Deep.QuietTactic
import Derived.BigQuiet
import Derived.Laws.CopyRow
import Derived.Laws.IdiomCopy
import Derived.Lib.SliceRun
import Derived.Lib.AppendZerosOnto
import Derived.Lib.Overlaps
import Derived.Laws.NewBlocks
import Derived.Shelf.RegionOpenPlain
namespace Go.Proofs.YteibeoipnjhicaaGreat
open Go Go.RowKit Go.Shelf
set_option linter.unusedVariables false
set_option linter.unusedSimpArgs false
/-- An element's cells. -/
abbrev Cl (sz : Nat) := {cs : List Value // cs.length = sz ∧ ∀ v ∈ cs, v.oneCell' = true}
def flat {sz : Nat} (xs : List (Cl sz)) : List Value := xs.flatMap (·.1)
def RdC {sz : Nat} (w : World) (A : Option Addr) (l : List (Cl sz)) : Prop := 0 < l.length → ∃ ad, A = some ad ∧ ∀ j v, (flat l)[j]? = some v → w.cell? (ad.add j) = some v
theorem RdC.below {sz : Nat} {w w1 : World} {A : Option Addr} {l : List (Cl sz)} (h : RdC w A l) (hb : Below w.heap.size w w1) : RdC w1 A l := fun hl => by
  obtain ⟨ad, e, hc⟩ := h hl
  refine ⟨ad, e, fun j v hj => ?_⟩
  have := hc j v hj
  rw [World.cell?_of_block (w := w) (a := ad.add j) (hb.block _ (World.block_lt_of_cell? w _ this))]; exact this
/-- A row of one's own, of these elements. -/
def RowC {sz : Nat} (e : Nat) (w : World) (base : Nat) (v : Value) (l : List (Cl sz)) : Prop := w.ownsRow base e sz v l.length (flat l)
theorem blk_lt {w : World} {g : Nat} {o : Obj} (h : w.heap[g]? = some o) : g < w.heap.size := (Array.getElem?_eq_some_iff.1 h).1
theorem blk_alloc {w : World} {g : Nat} {o : Obj} (h : w.heap[g]? = some o) (o' : Obj) : (w.alloc o').heap[g]? = some o := (Below.heap_alloc w o' g (blk_lt h)).trans h
/-- A row that has been moved, or not. -/
def SameA (v v' : Value) : Prop := ∃ A n n' c, v = .slice A n c ∧ v' = .slice A n' c
def Mv (w w' : World) (v v' : Value) : Prop := (SameA v v' ∧ w.grownBy w' v.ownBlock) ∨ (v'.ownBlock = some w.heap.size ∧ Below w.heap.size w w')
theorem own_slice {w : World} {base e sz n : Nat} {v : Value} {xs : List Value} (h : w.ownsRow base e sz v n xs) : ∃ A c, v = .slice A n c := by
  rcases h.2 with ⟨rfl, rfl⟩ | ⟨g, cap, cur, rfl, _⟩
  · exact ⟨_, _, rfl⟩
  · exact ⟨_, _, rfl⟩
theorem gb_refl (w : World) (row : Option Nat) : w.grownBy w row := ⟨rfl, rfl, rfl, Nat.le_refl _, fun _ _ _ => rfl⟩
theorem gb_drew {w w1 : World} {row : Option Nat} (h : w.grownBy w1 row) : w.grownBy w1.drew row := ⟨h.os, h.tape, h.output, h.size, h.block⟩
theorem gb_setRow {w w1 : World} {row : Option Nat} (h : w.grownBy w1 row) (g : Nat) (cur : Array Value) (hg : row = some g ∨ w.heap.size ≤ g) : w.grownBy (w1.setRow g cur) row := by
  refine ⟨h.os, h.tape, h.output, by rw [setRow_size]; exact h.size, fun k hk hne => ?_⟩
  rw [setRow_other w1 g k cur (fun e => ?_)]
  · exact h.block k hk hne
  · subst e
    rcases hg with hg | hg
    · exact hne hg.symm
    · omega
section
variable {P : Program} {sz : Nat}
theorem flat_nil : flat ([] : List (Cl sz)) = [] := rfl
theorem flat_cons (x : Cl sz) (t : List (Cl sz)) : flat (x :: t) = x.1 ++ flat t := by simp [flat]
theorem q5r (a b : List (Cl sz)) : flat (a ++ b) = flat a ++ flat b := by simp [flat]
theorem q5e (xs : List (Cl sz)) : (flat xs).length = xs.length * sz := by
  induction xs with
  | nil => simp [flat]
  | cons x t ih => rw [flat_cons, List.length_append, x.2.1, ih, List.length_cons, Nat.add_mul, Nat.one_mul, Nat.add_comm]
theorem flat_one (xs : List (Cl sz)) : ∀ v ∈ flat xs, v.oneCell' = true := by
  intro v hv
  unfold flat at hv
  obtain ⟨x, _, hx⟩ := List.mem_flatMap.1 hv
  exact x.2.2 v hx
theorem flat_take (xs : List (Cl sz)) (k : Nat) (hk : k ≤ xs.length) : (flat xs).take (k * sz) = flat (xs.take k) := by
  conv => lhs; rw [← List.take_append_drop k xs, q5r]
  rw [List.take_left' (by rw [q5e, List.length_take]; congr 1; omega)]
theorem flat_drop (xs : List (Cl sz)) (k : Nat) (hk : k ≤ xs.length) : (flat xs).drop (k * sz) = flat (xs.drop k) := by
  conv => lhs; rw [← List.take_append_drop k xs, q5r]
  rw [List.drop_left' (by rw [q5e, List.length_take]; congr 1; omega)]
/-- The row out of its block. -/
theorem flat_block {e : Nat} {w : World} {base g cap : Nat} {cur : Array Value} {xs : List (Cl sz)} (hb : base ≤ g) (hg : w.heap[g]? = some (.cells cur e (0, 0))) (hn : xs.length ≤ cap) (hm : cap ≤ maxLen) (hs : cur.size = cap * sz)
    (ht : cur.toList.take (xs.length * sz) = flat xs) : w.ownsRow base e sz (.slice (some ⟨g, 0, none⟩) xs.length cap) xs.length (flat xs) := ⟨q5e xs, .inr ⟨g, cap, cur, rfl, hb, hg, hn, hm, hs, ht⟩⟩
theorem C_flat {w : World} {A : Option Addr} {xs : List (Cl sz)} (h : RdC w A xs) (ad : Addr) (hA : A = some ad) : ∀ j v, (flat xs)[j]? = some v → w.cell? (ad.add j) = some v := fun j v hj => by
  rcases Nat.eq_zero_or_pos xs.length with h0 | h0
  · have : xs = [] := List.eq_nil_of_length_eq_zero h0
    subst this; simp [flat] at hj
  · obtain ⟨ad', e, hc⟩ := h h0
    obtain rfl : ad' = ad := by rw [hA] at e; exact (Option.some.inj e).symm
    exact hc j v hj
theorem copy_row (w : World) (dT sT ty elem : TypeId) (sz g o dLen dCap : Nat) (a : Addr) (sLen sCap : Nat) (cur : Array Value) (t : TypeId) (cs : List Value)
    (hu : P.underlying dT = some (.slice elem)) (hs : (P.info? elem).map (·.size) = some sz)
    (hg : w.heap[g]? = some (.cells cur t (0, 0))) (hn : cs.length = Nat.min sLen dLen * sz)
    (hsrc : ∀ j v, cs[j]? = some v → w.cell? (a.add j) = some v) (hfit : o + cs.length ≤ cur.size) (h1 : ∀ v ∈ cs, v.oneCell' = true) :
    (Builtin.copy_ #[dT, sT] ty #[.slice (some ⟨g, o, none⟩) dLen dCap, .slice (some a) sLen sCap]).run P w =
      .ok (goInt (Nat.min sLen dLen)) (w.setRow g (cur.toList.take o ++ cs ++ cur.toList.drop (o + cs.length)).toArray) := by
  have hl := run_loadCells_list (P := P) w a cs hsrc
  have hst := run_storeCells_at P g o t cs 0 cur w hg (by simpa using hfit) h1
  simp only [Nat.add_zero] at hst
  cases hq : P.info? elem with
  | none => simp [hq] at hs
  | some i =>
    have hi : i.size = sz := by simpa [hq] using hs
    rw [hn] at hl
    simp [Builtin.copy_, run_underlying hu, Builtin.lenOf, Builtin.firstCells, sizeOf, typeInfo, hq, hi, hl, hst]
/-- The row's cells once some of them are others. -/
theorem seg_take (cur : List Value) (o : Nat) (cs : List Value) (h : o + cs.length ≤ cur.length) (k : Nat) (hk : o + cs.length ≤ k) : (cur.take o ++ cs ++ cur.drop (o + cs.length)).take k = cur.take o ++ cs ++ (cur.take k).drop (o + cs.length) := by
  rw [List.take_append, List.take_of_length_le (by rw [List.length_append, List.length_take]; omega)]
  congr 1
  rw [List.length_append, List.length_take, List.drop_take]
  congr 1; omega
theorem seg_len (cur : List Value) (o : Nat) (cs : List Value) (h : o + cs.length ≤ cur.length) : (cur.take o ++ cs ++ cur.drop (o + cs.length)).length = cur.length := by
  simp only [List.length_append, List.length_take, List.length_drop]; omega
theorem seg_low (cur : List Value) (o : Nat) (cs : List Value) (h : o + cs.length ≤ cur.length) (k : Nat) (hk : k ≤ o) : (cur.take o ++ cs ++ cur.drop (o + cs.length)).take k = cur.take k := by
  rw [List.append_assoc, List.take_append_of_le_length (by rw [List.length_take]; omega), List.take_take]
  congr 1; omega
theorem step_copy {ops : Array Oper} {o : Oper} {a : Act} {w : World} {K : Act → World → Prop} {Q : Exit → Act → World → Prop} {E : Prop}
    (hg : o.guard = none) (x s : Operand) (dT sT : TypeId) (hop : o.op = Op.call { callee := Callee.builtin Builtin.copy, args := #[x, s], argTypes := #[dT, sT] })
    (v u : Value) (hd : a.eval x = v) (hx : a.eval s = u) {v' : Value} {w' : World} (hr : (Builtin.copy_ #[dT, sT] o.type #[v, u]).run P w = .ok v' w') (hK : K (a.put o.dst v') w') :
    if Region.wanted o (yielded ops a.tmps) = true then Oper.wp P o a w K Q else E := by
  have hw : Region.wanted o (yielded ops a.tmps) = true := by simp [Region.wanted, hg]
  rw [if_pos hw]
  unfold Oper.wp
  simp [execOp, hop, resolve, invoke, builtin, hd, hx, hr, Result.andThen]
  exact hK
theorem below_setRow {base : Nat} {w W : World} (h : Below base w W) (g : Nat) (cur : Array Value) (hb : base ≤ g) : Below base w (W.setRow g cur) :=
  ⟨h.os, h.tape, h.output, by simpa using h.size, fun i hi => (setRow_other W g i _ (by omega)).trans (h.block i hi)⟩
theorem append_types (t t' e e' ty : TypeId) (ht : P.underlying t = some (.slice e)) (ht' : P.underlying t' = some (.slice e')) (A : Option Addr) (n c : Nat) (y : Value) (w : World) : (Builtin.append_ #[t, t'] ty #[.slice A n c, y]).run P w = (Builtin.append_ #[t, t] ty #[.slice A n c, y]).run P w := by
  unfold Builtin.append_
  simp [run_underlying ht, run_underlying ht']
theorem setRow_get (w : World) (g : Nat) (cur cur' : Array Value) (t : TypeId) (fr : Nat × Nat) (hg : w.heap[g]? = some (.cells cur t fr)) : (w.setRow g cur').heap[g]? = some (.cells cur' t fr) := setRow_heap w g cur _ t _ hg
/-- The cells behind an insertion in place: the tail moved up, then the new element. -/
theorem insert_cells {cur : List Value} {l : List (Cl sz)} {x : Cl sz} {cap k : Nat} (hcl : cur.length = cap * sz) (hn : l.length + 1 ≤ cap) (ht : cur.take (l.length * sz) = flat l) (hk : k < l.length)
    {cur1 cur2 : List Value} (h1 : cur1 = cur.take ((k + 1) * sz) ++ flat (l.drop k) ++ cur.drop ((k + 1) * sz + (flat (l.drop k)).length)) (h2 : cur2 = cur1.take (k * sz) ++ x.1 ++ cur1.drop (k * sz + (x.1).length)) :
    (k + 1) * sz + (flat (l.drop k)).length ≤ cur.length ∧ cur1.length = cap * sz ∧ k * sz + (x.1).length ≤ cur1.length ∧ cur2.length = cap * sz ∧ cur2.take ((l.length + 1) * sz) = flat (l.take k ++ x :: l.drop k) := by
  have hfl : (flat (l.drop k)).length = (l.length - k) * sz := by rw [q5e, List.length_drop]
  have hx := x.2.1
  have e0 : (k + 1) * sz = k * sz + sz := Nat.succ_mul _ _
  have e1 : (k + 1) * sz + (l.length - k) * sz = (l.length + 1) * sz := by rw [← Nat.add_mul]; congr 1; omega
  have e3 : (l.length + 1) * sz ≤ cap * sz := Nat.mul_le_mul_right _ hn
  have e4 : k * sz ≤ l.length * sz := Nat.mul_le_mul_right _ (by omega)
  have hb1 : (k + 1) * sz + (flat (l.drop k)).length ≤ cur.length := by rw [hfl, hcl]; omega
  have hl1 : cur1.length = cap * sz := by rw [h1, seg_len _ _ _ hb1, hcl]
  have hb2 : k * sz + (x.1).length ≤ cur1.length := by rw [hx, hl1]; omega
  refine ⟨hb1, hl1, hb2, by rw [h2, seg_len _ _ _ hb2, hl1], ?_⟩
  rw [h2, seg_take _ _ _ hb2 _ (by rw [hx]; omega)]
  have e6 : cur1.take (k * sz) = flat (l.take k) := by
    rw [h1, seg_low _ _ _ hb1 _ (by omega), ← flat_take l k (by omega), ← ht, List.take_take]; congr 1; omega
  have e7 : (cur1.take ((l.length + 1) * sz)).drop (k * sz + (x.1).length) = flat (l.drop k) := by
    rw [h1, seg_take _ _ _ hb1 _ (by rw [hfl]; omega), hfl, e1, List.drop_of_length_le (i := (l.length + 1) * sz) (by rw [List.length_take]; omega), List.append_nil, hx, ← e0]
    rw [List.drop_left' (by rw [List.length_take]; omega)]
  rw [e6, e7, q5r, flat_cons, List.append_assoc]
/-- The cells of a new row behind an insertion: the head, the new element, the tail. -/
theorem grown_cells {row : List Value} {l : List (Cl sz)} {x : Cl sz} {cap k : Nat} (hcl : row.length = cap * sz) (hn : l.length + 1 ≤ cap) (hk : k < l.length) (ht : row.take (k * sz) = flat (l.take k))
    {cur1 cur2 : List Value} (h1 : cur1 = row.take (k * sz) ++ x.1 ++ row.drop (k * sz + (x.1).length)) (h2 : cur2 = cur1.take ((k + 1) * sz) ++ flat (l.drop k) ++ cur1.drop ((k + 1) * sz + (flat (l.drop k)).length)) :
    k * sz + (x.1).length ≤ row.length ∧ cur1.length = cap * sz ∧ (k + 1) * sz + (flat (l.drop k)).length ≤ cur1.length ∧ cur2.length = cap * sz ∧ cur2.take ((l.length + 1) * sz) = flat (l.take k ++ x :: l.drop k) := by
  have hfl : (flat (l.drop k)).length = (l.length - k) * sz := by rw [q5e, List.length_drop]
  have hx := x.2.1
  have e0 : (k + 1) * sz = k * sz + sz := Nat.succ_mul _ _
  have e1 : (k + 1) * sz + (l.length - k) * sz = (l.length + 1) * sz := by rw [← Nat.add_mul]; congr 1; omega
  have e3 : (l.length + 1) * sz ≤ cap * sz := Nat.mul_le_mul_right _ hn
  have e4 : (k + 1) * sz ≤ (l.length + 1) * sz := Nat.mul_le_mul_right _ (by omega)
  have hb1 : k * sz + (x.1).length ≤ row.length := by rw [hx, hcl]; omega
  have hl1 : cur1.length = cap * sz := by rw [h1, seg_len _ _ _ hb1, hcl]
  have hb2 : (k + 1) * sz + (flat (l.drop k)).length ≤ cur1.length := by rw [hfl, hl1]; omega
  refine ⟨hb1, hl1, hb2, by rw [h2, seg_len _ _ _ hb2, hl1], ?_⟩
  rw [h2, seg_take _ _ _ hb2 _ (by rw [hfl]; omega), hfl, e1, List.drop_of_length_le (i := (l.length + 1) * sz) (by rw [List.length_take]; omega), List.append_nil]
  rw [h1, seg_take _ _ _ hb1 _ (by rw [hx]; omega), hx, ← e0, List.drop_of_length_le (i := (k + 1) * sz) (by rw [List.length_take]; omega), List.append_nil, ht]
  rw [q5r, flat_cons, List.append_assoc]
/-- One element more, behind a row of one's own: in place, or in a new block. -/
theorem append_own2 (w : World) (base : Nat) (t e : TypeId) (i : TypeInfo) (z : Value) (ty : TypeId) (ht : P.underlying t = some (.slice e)) (hi : P.info? e = some i) (hz : i.zero = some z) (hzs : z.cells.size = i.size) (hpos : 0 < i.size)
    (v : Value) (n : Nat) (xs : List Value) (hown : w.ownsRow base e i.size v n xs) (hbase : base ≤ w.heap.size) (vb cv : Nat) (x : List Value) (hxl : x.length = i.size) (hx1 : ∀ u ∈ x, u.oneCell' = true) (hcell : ∀ j u, x[j]? = some u → w.cell? ((⟨vb, 0, none⟩ : Addr).add j) = some u)
    (hby : (n + 1) * i.bytes ≤ 140737488355328) (hml : n + 1 ≤ maxLen) :
    ∃ v' w', (Builtin.append_ #[t, t] ty #[v, .slice (some ⟨vb, 0, none⟩) 1 cv]).run P w = .ok v' w' ∧ w'.ownsRow base e i.size v' (n + 1) (xs ++ x) ∧
      ((SameA v v' ∧ w.grownBy w' v.ownBlock) ∨ (v'.ownBlock = some w.heap.size ∧ Below w.heap.size w w')) := by
  have h63 : n + 1 ≤ 9223372036854775807 := by simp only [maxLen] at hml; omega
  have hsrc : Src P i.size t (.slice (some ⟨vb, 0, none⟩) 1 cv) 1 x w := Src.ofSlice w ht ⟨vb, 0, none⟩ 1 cv x (by rw [hxl]; simp) hcell hx1
  have grown : ∀ (A : Option Addr) (cap : Nat), v = .slice A n cap → cap < n + 1 → (Builtin.firstCells i.size n v).run P w.drew = .ok xs.toArray w.drew → ∃ v' w', (Builtin.append_ #[t, t] ty #[v, .slice (some ⟨vb, 0, none⟩) 1 cv]).run P w = .ok v' w' ∧ w'.ownsRow base e i.size v' (n + 1) (xs ++ x) ∧
      ((SameA v v' ∧ w.grownBy w' v.ownBlock) ∨ (v'.ownBlock = some w.heap.size ∧ Below w.heap.size w w')) := by
    rintro A cap rfl hcap hold
    have hgr := run_append_grow_src (P := P) w t t ty e i z ht hi hz A n cap xs hold _ 1 x hsrc hcap (by omega) (growslice_fits (by omega) hby)
    have hbel : Below w.heap.size w (w.drew.alloc (.cells ((xs ++ x).toArray ++ Builtin.zeroCells z.cells (grownCap w (n + 1) cap e - (n + 1))) e)) := (Below.refl _ _).drew.alloc (by simp) _
    have hl2 : (xs ++ x).length = (n + 1) * i.size := by rw [List.length_append, hown.1, hxl, Nat.add_mul, Nat.one_mul]
    have hge := grownCap_ge w (n + 1) cap e
    refine ⟨_, _, hgr, ⟨hl2, .inr ⟨w.heap.size, grownCap w (n + 1) cap e, _, rfl, hbase, heap_alloc_new w.drew _, hge, grownCap_le_maxLen w (n + 1) cap e hml, ?_, ?_⟩⟩, .inr ⟨rfl, hbel⟩⟩
    · simp only [Array.size_append, List.size_toArray, size_zeroCells, hzs, hl2, ← Nat.add_mul]
      congr 1
      omega
    · simp only [Array.toList_append]
      rw [← hl2]
      exact List.take_left
  rcases hown.2 with ⟨rfl, rfl⟩ | ⟨g, cap, cur, rfl, hg0, hg, hnc, hcm, hcs, htake⟩
  · have : xs = [] := List.eq_nil_of_length_eq_zero (by have := hown.1; simpa using this)
    subst this
    exact grown none 0 rfl (by omega) (by simp [Builtin.firstCells, loadCells, loadCellsFrom])
  · by_cases hroom : n + 1 ≤ cap
    · have hfit : n * i.size + x.length ≤ cur.size := by rw [hxl, hcs, ← Nat.succ_mul]; exact Nat.mul_le_mul_right _ hroom
      have hr := Go.run_append_room (P := P) w t ty e i ht hi g n cap cur hg ⟨vb, 0, none⟩ 1 cv x (by rw [hxl]; simp) hcell hx1 hroom hfit
      have hl2 : (xs ++ x).length = (n + 1) * i.size := by rw [List.length_append, hown.1, hxl, Nat.add_mul, Nat.one_mul]
      refine ⟨_, _, hr, ⟨hl2, .inr ⟨g, cap, _, rfl, hg0, setRow_heap w g cur _ e (0, 0) hg, hroom, hcm, ?_, ?_⟩⟩, .inl ⟨⟨_, _, _, _, rfl, rfl⟩, gb_setRow (gb_refl _ _) g _ (.inl rfl)⟩⟩
      · simp only [List.size_toArray, List.length_append, List.length_take, List.length_drop, Array.length_toList]; omega
      · rw [← hl2, htake]; exact List.take_left
    · refine grown (some ⟨g, 0, none⟩) cap rfl (by omega) ?_
      refine run_firstCells_some w.drew i.size n ⟨g, 0, none⟩ n cap xs hown.1 (fun j u hj => ?_)
      rw [Addr.add_lit, Nat.zero_add, cell_of_row _ g _ cur _ _ (show w.drew.heap[g]? = some (.cells cur e (0, 0)) from hg)]
      rw [← htake, List.getElem?_take] at hj
      split at hj
      · rw [Array.getElem?_toList] at hj; exact hj
      · cases hj
end
end Go.Proofs.YteibeoipnjhicaaGreat
