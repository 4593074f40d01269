import Derived.Test.YtkajfadhlgmcjaaSW0
import Derived.Laws.CopyRow
import Derived.Laws.IdiomCopy
import Derived.Lib.SliceRun
import Derived.Lib.AppendZerosOnto
import Derived.Lib.Overlaps
import Derived.Laws.NewBlocks
import Derived.Shelf.RegionOpenPlain
namespace Go.Proofs.Ytkajfadhlgmcjaa
open Go Go.RowKit Go.Shelf Go.Proofs.YtkajfadhlgmcjaaW.PrintWords Go.Proofs.YtkajfadhlgmcjaaW.PrintLast Go.Proofs.YtkajfadhlgmcjaaW.PrintMore
set_option linter.unusedVariables false
set_option linter.unusedSimpArgs false
/-! Rows of elements of several cells that refer to nothing: how slices.Clone, Delete and Insert turn them. -/
structure Flat {α : Type} (d : Kd α) (enc : α → List Value) : Prop where
  len : ∀ x, (enc x).length = d.sz
  one : ∀ x, ∀ v ∈ enc x, v.oneCell' = true
  opens : ∀ {w : World} {x cs}, d.K w x cs → cs = enc x
  made : ∀ w base ok x, d.M w base ok x (enc x)
def flat {α : Type} (enc : α → List Value) (xs : List α) : List Value := xs.flatMap enc
section
variable {P : Program} {α : Type} {d : Kd α} {enc : α → List Value}
theorem flat_nil : flat enc [] = [] := rfl
theorem flat_cons (x : α) (t : List α) : flat enc (x :: t) = enc x ++ flat enc t := by simp [flat]
theorem flat_append (a b : List α) : flat enc (a ++ b) = flat enc a ++ flat enc b := by simp [flat]
theorem flat_len (F : Flat d enc) (xs : List α) : (flat enc xs).length = xs.length * d.sz := by
  induction xs with
  | nil => simp [flat]
  | cons x t ih => rw [flat_cons, List.length_append, F.len, ih, List.length_cons, Nat.add_mul, Nat.one_mul, Nat.add_comm]
theorem flat_one (F : Flat d enc) (xs : List α) : ∀ v ∈ flat enc xs, v.oneCell' = true := by
  intro v hv
  unfold flat at hv
  obtain ⟨x, _, hx⟩ := List.mem_flatMap.1 hv
  exact F.one x v hx
theorem flat_take (F : Flat d enc) (xs : List α) (k : Nat) (hk : k ≤ xs.length) : (flat enc xs).take (k * d.sz) = flat enc (xs.take k) := by
  conv => lhs; rw [← List.take_append_drop k xs, flat_append]
  rw [List.take_left' (by rw [flat_len F, List.length_take]; congr 1; omega)]
theorem flat_drop (F : Flat d enc) (xs : List α) (k : Nat) (hk : k ≤ xs.length) : (flat enc xs).drop (k * d.sz) = flat enc (xs.drop k) := by
  conv => lhs; rw [← List.take_append_drop k xs, flat_append]
  rw [List.drop_left' (by rw [flat_len F, List.length_take]; congr 1; omega)]
theorem flat_at (F : Flat d enc) (xs : List α) (j : Nat) (p : α) (h : xs[j]? = some p) : ((flat enc xs).drop (j * d.sz)).take d.sz = enc p := by
  obtain ⟨hj, rfl⟩ := List.getElem?_eq_some_iff.1 h
  rw [flat_drop F xs j (by omega), List.drop_eq_getElem_cons hj, flat_cons, List.take_left' (F.len _)]
theorem flat_reps (F : Flat d enc) {R : α → List Value → Prop} (hR : ∀ x, R x (enc x)) (xs : List α) : Reps R d.sz xs (flat enc xs) :=
  ⟨flat_len F xs, fun j p hp => by rw [flat_at F xs j p hp]; exact hR p⟩
theorem reps_flat (F : Flat d enc) {R : α → List Value → Prop} (hR : ∀ x cs, R x cs → cs = enc x) {xs : List α} : ∀ {cs : List Value}, Reps R d.sz xs cs → cs = flat enc xs := by
  induction xs with
  | nil => intro cs h; exact List.eq_nil_of_length_eq_zero (by simpa using h.1)
  | cons x t ih =>
    intro cs h
    have h0 := hR _ _ (h.2 0 x rfl)
    simp only [Nat.zero_mul, List.drop_zero] at h0
    have ht : Reps R d.sz t (cs.drop d.sz) := ⟨by rw [List.length_drop, h.1, List.length_cons, Nat.add_mul, Nat.one_mul]; omega, fun j p hp => by
      have := h.2 (j + 1) p hp
      rw [List.drop_drop]
      rw [show d.sz + j * d.sz = (j + 1) * d.sz by rw [Nat.add_mul, Nat.one_mul, Nat.add_comm]]
      exact this⟩
    rw [flat_cons, ← ih ht, ← h0, List.take_append_drop]
/-- What a row of one's own is. -/
theorem R_flat (F : Flat d enc) {e : Nat} {w : World} {base : Nat} {ok : Nat → Prop} {v : Value} {xs : List α} (h : d.R e w base ok v xs) : w.ownsRow base e d.sz v xs.length (flat enc xs) := by
  obtain ⟨_, inner, ho, hr⟩ := h
  have := reps_flat F (fun x cs hx => F.opens (d.K_of_M (w := w) hx)) hr
  rw [← this]; exact ho
theorem flat_R (F : Flat d enc) {e : Nat} {w : World} {base : Nat} {v : Value} {xs : List α} (h : w.ownsRow base e d.sz v xs.length (flat enc xs)) : d.R e w base (fun _ => True) v xs :=
  ⟨fun _ _ => trivial, _, h, flat_reps F (fun x => F.made _ _ _ x) xs⟩
/-- The row out of its block. -/
theorem flat_block (F : Flat d enc) {e : Nat} {w : World} {base g cap : Nat} {cur : Array Value} {xs : List α} (hb : base ≤ g) (hg : w.heap[g]? = some (.cells cur e (0, 0))) (hn : xs.length ≤ cap) (hm : cap ≤ maxLen) (hs : cur.size = cap * d.sz)
    (ht : cur.toList.take (xs.length * d.sz) = flat enc xs) : d.R e w base (fun _ => True) (.slice (some ⟨g, 0, none⟩) xs.length cap) xs :=
  flat_R F ⟨flat_len F xs, .inr ⟨g, cap, cur, rfl, hb, hg, hn, hm, hs, ht⟩⟩
/-- The cells of a row that is read. -/
theorem C_flat (F : Flat d enc) {w : World} {A : Option Addr} {xs : List α} (h : d.C w A xs.length xs) (ad : Addr) (hA : A = some ad) : ∀ j v, (flat enc xs)[j]? = some v → w.cell? (ad.add j) = some v := by
  intro q v hq
  obtain ⟨hql, _⟩ := List.getElem?_eq_some_iff.1 hq
  rw [flat_len F] at hql
  have hs0 : 0 < d.sz := by
    rcases Nat.eq_zero_or_pos d.sz with h0 | h0
    · rw [h0, Nat.mul_zero] at hql; omega
    · exact h0
  have hj : q / d.sz < xs.length := by rw [Nat.div_lt_iff_lt_mul hs0]; exact hql
  obtain ⟨ad', e, hc⟩ := h.2.2 (Nat.lt_of_le_of_lt (Nat.zero_le _) hj)
  obtain rfl : ad' = ad := by rw [hA] at e; exact (Option.some.inj e).symm
  obtain ⟨c, hcl, hK, hcells⟩ := hc (q / d.sz) _ (List.getElem?_eq_getElem hj)
  have := hcells (q % d.sz) v (by
    rw [F.opens hK, ← flat_at F xs (q / d.sz) _ (List.getElem?_eq_getElem hj), List.getElem?_take, if_pos (Nat.mod_lt _ hs0), List.getElem?_drop, Nat.mul_comm, Nat.div_add_mod]
    exact hq)
  rwa [Nat.mul_comm, Nat.div_add_mod] at this
theorem copy_row (w : World) (dT sT ty elem : TypeId) (sz g o dLen dCap : Nat) (a : Addr) (sLen sCap : Nat) (cur : Array Value) (t : TypeId) (cs : List Value)
    (hu : P.underlying dT = some (.slice elem)) (hs : (P.info? elem).map (·.size) = some sz)
    (hg : w.heap[g]? = some (.cells cur t (0, 0))) (hn : cs.length = Nat.min sLen dLen * sz)
    (hsrc : ∀ j v, cs[j]? = some v → w.cell? (a.add j) = some v) (hfit : o + cs.length ≤ cur.size) (h1 : ∀ v ∈ cs, v.oneCell' = true) :
    (Builtin.copy_ #[dT, sT] ty #[.slice (some ⟨g, o, none⟩) dLen dCap, .slice (some a) sLen sCap]).run P w =
      .ok (goInt (Nat.min sLen dLen)) (w.setRow g (cur.toList.take o ++ cs ++ cur.toList.drop (o + cs.length)).toArray) := by
  have hl := run_loadCells_list (P := P) w a cs hsrc
  have hst := run_storeCells_at P g o t cs 0 cur w hg (by simpa using hfit) h1
  simp only [Nat.add_zero] at hst
  cases hq : P.info? elem with
  | none => simp [hq] at hs
  | some i =>
    have hi : i.size = sz := by simpa [hq] using hs
    rw [hn] at hl
    simp [Builtin.copy_, run_underlying hu, Builtin.lenOf, Builtin.firstCells, sizeOf, typeInfo, hq, hi, hl, hst]
theorem clear_row (w : World) (t e : TypeId) (z : Value) (ht : P.underlying t = some (.slice e)) (hv : ∀ w, (zeroValue e).run P w = .ok z w) (h1 : ∀ v ∈ z.cells.toList, v.oneCell' = true) (g o n : Nat) (hn : 0 < n) (cur : Array Value) (q : TypeId)
    (hg : w.heap[g]? = some (.cells cur q (0, 0))) (hfit : o + n * z.cells.size ≤ cur.size) :
    ∃ zs : List Value, zs.length = n * z.cells.size ∧ ∀ ty c, (Builtin.clear_ #[t] ty #[.slice (some ⟨g, o, none⟩) n c]).run P w = .ok (.tuple #[]) (w.setRow g (cur.toList.take o ++ zs ++ cur.toList.drop (o + zs.length)).toArray) := by
  have hzl : (Builtin.zeroCells z.cells n).toList.length = n * z.cells.size := by rw [Array.length_toList, size_zeroCells]
  have hst := run_storeCells_at P g o q (Builtin.zeroCells z.cells n).toList 0 cur w hg (by rw [hzl]; simpa using hfit) (by
    intro v hv
    simp only [Builtin.zeroCells, Array.toList_map, List.mem_map, Array.mem_toList_iff, Array.mem_range] at hv
    obtain ⟨i, hi, rfl⟩ := hv
    have hz : 0 < z.cells.size := by
      rcases Nat.eq_zero_or_pos z.cells.size with h | h
      · rw [h] at hi; simp at hi
      · exact h
    have := Nat.mod_lt i hz
    rw [getElem!_pos z.cells _ this]
    exact h1 _ (by simp))
  simp only [Nat.add_zero] at hst
  refine ⟨_, hzl, fun ty c => ?_⟩
  obtain ⟨n, rfl⟩ : ∃ m, n = m + 1 := ⟨n - 1, by omega⟩
  simp [Builtin.clear_, run_underlying ht, hv, hst]
/-- The row's cells once some of them are others. -/
theorem seg_take (cur : List Value) (o : Nat) (cs : List Value) (h : o + cs.length ≤ cur.length) (k : Nat) (hk : o + cs.length ≤ k) : (cur.take o ++ cs ++ cur.drop (o + cs.length)).take k = cur.take o ++ cs ++ (cur.take k).drop (o + cs.length) := by
  rw [List.take_append, List.take_of_length_le (by rw [List.length_append, List.length_take]; omega)]
  congr 1
  rw [List.length_append, List.length_take, List.drop_take]
  congr 1; omega
theorem seg_len (cur : List Value) (o : Nat) (cs : List Value) (h : o + cs.length ≤ cur.length) : (cur.take o ++ cs ++ cur.drop (o + cs.length)).length = cur.length := by
  simp only [List.length_append, List.length_take, List.length_drop]; omega
theorem seg_low (cur : List Value) (o : Nat) (cs : List Value) (h : o + cs.length ≤ cur.length) (k : Nat) (hk : k ≤ o) : (cur.take o ++ cs ++ cur.drop (o + cs.length)).take k = cur.take k := by
  rw [List.append_assoc, List.take_append_of_le_length (by rw [List.length_take]; omega), List.take_take]
  congr 1; omega
theorem wpl_copy (w : World) {ops : Array Oper} {rest : List Oper} {o : Oper} {a : Act} {Q : Exit → Act → World → Prop} (hgd : o.guard = none) (x s : Operand) (t t' : TypeId)
    (ho : o.op = .call { callee := .builtin .copy, args := #[x, s], argTypes := #[t, t'] }) (v u : Value) (hd : a.eval x = v) (hs : a.eval s = u) {v' : Value} {w' : World}
    (hr : (Builtin.copy_ #[t, t'] o.type #[v, u]).run P w = .ok v' w') (h : wpList P ops Q rest (a.put o.dst v') w') : wpList P ops Q (o :: rest) a w :=
  wpList_plain hgd fun _ hK => by
    unfold Oper.wp execOp
    simp only [ho, resolve, invoke, builtin, Sem.run_bind, Sem.run_pure, Result.andThen_ok, List.map_toArray, List.map_cons, List.map_nil, hd, hs, hr]
    exact hK _ _ h
theorem wpl_clear (w : World) {ops : Array Oper} {rest : List Oper} {o : Oper} {a : Act} {Q : Exit → Act → World → Prop} (hgd : o.guard = none) (x : Operand) (t : TypeId)
    (ho : o.op = .call { callee := .builtin .clear, args := #[x], argTypes := #[t] }) (v : Value) (hd : a.eval x = v) {v' : Value} {w' : World}
    (hr : (Builtin.clear_ #[t] o.type #[v]).run P w = .ok v' w') (h : wpList P ops Q rest (a.put o.dst v') w') : wpList P ops Q (o :: rest) a w :=
  wpList_plain hgd fun _ hK => by
    unfold Oper.wp execOp
    simp only [ho, resolve, invoke, builtin, Sem.run_bind, Sem.run_pure, Result.andThen_ok, List.map_toArray, List.map_cons, List.map_nil, hd, hr]
    exact hK _ _ h
theorem step_copy {ops : Array Oper} {o : Oper} {a : Act} {w : World} {K : Act → World → Prop} {Q : Exit → Act → World → Prop} {E : Prop}
    (hg : o.guard = none) (x s : Operand) (dT sT : TypeId) (hop : o.op = Op.call { callee := Callee.builtin Builtin.copy, args := #[x, s], argTypes := #[dT, sT] })
    (v u : Value) (hd : a.eval x = v) (hx : a.eval s = u) {v' : Value} {w' : World} (hr : (Builtin.copy_ #[dT, sT] o.type #[v, u]).run P w = .ok v' w') (hK : K (a.put o.dst v') w') :
    if Region.wanted o (yielded ops a.tmps) = true then Oper.wp P o a w K Q else E := by
  have hw : Region.wanted o (yielded ops a.tmps) = true := by simp [Region.wanted, hg]
  rw [if_pos hw]
  unfold Oper.wp
  simp [execOp, hop, resolve, invoke, builtin, hd, hx, hr, Result.andThen]
  exact hK
theorem below_setRow {base : Nat} {w W : World} (h : Below base w W) (g : Nat) (cur : Array Value) (hb : base ≤ g) : Below base w (W.setRow g cur) :=
  ⟨h.os, h.tape, h.output, by simpa using h.size, fun i hi => (setRow_other W g i _ (by omega)).trans (h.block i hi)⟩
theorem step_append {ops : Array Oper} {o : Oper} {a : Act} {w : World} {K : Act → World → Prop} {Q : Exit → Act → World → Prop} {E : Prop}
    (hg : o.guard = none) (x s : Operand) (dT sT : TypeId) (hop : o.op = Op.call { callee := Callee.builtin Builtin.append, args := #[x, s], argTypes := #[dT, sT] })
    (v u : Value) (hd : a.eval x = v) (hx : a.eval s = u) {v' : Value} {w' : World} (hr : (Builtin.append_ #[dT, sT] o.type #[v, u]).run P w = .ok v' w') (hK : K (a.put o.dst v') w') :
    if Region.wanted o (yielded ops a.tmps) = true then Oper.wp P o a w K Q else E := by
  have hw : Region.wanted o (yielded ops a.tmps) = true := by simp [Region.wanted, hg]
  rw [if_pos hw]
  unfold Oper.wp
  simp [execOp, hop, resolve, invoke, builtin, hd, hx, hr, Result.andThen]
  exact hK
theorem append_types (t t' e e' ty : TypeId) (ht : P.underlying t = some (.slice e)) (ht' : P.underlying t' = some (.slice e')) (A : Option Addr) (n c : Nat) (y : Value) (w : World) : (Builtin.append_ #[t, t'] ty #[.slice A n c, y]).run P w = (Builtin.append_ #[t, t] ty #[.slice A n c, y]).run P w := by
  unfold Builtin.append_
  simp [run_underlying ht, run_underlying ht']
theorem setRow_get (w : World) (g : Nat) (cur cur' : Array Value) (t : TypeId) (fr : Nat × Nat) (hg : w.heap[g]? = some (.cells cur t fr)) : (w.setRow g cur').heap[g]? = some (.cells cur' t fr) := setRow_heap w g cur _ t _ hg
/-- The cells behind a deletion: the tail moved down, what stood last cleared. -/
theorem delete_cells (F : Flat d enc) {cur : List Value} {l : List α} {cap k : Nat} {zs : List Value} (hcl : cur.length = cap * d.sz) (hn : l.length ≤ cap) (ht : cur.take (l.length * d.sz) = flat enc l) (hk : k < l.length) (hz : zs.length = d.sz)
    {cur1 cur2 : List Value} (h1 : cur1 = cur.take (k * d.sz) ++ flat enc (l.drop (k + 1)) ++ cur.drop (k * d.sz + (flat enc (l.drop (k + 1))).length)) (h2 : cur2 = cur1.take ((l.length - 1) * d.sz) ++ zs ++ cur1.drop ((l.length - 1) * d.sz + zs.length)) :
    k * d.sz + (flat enc (l.drop (k + 1))).length ≤ cur.length ∧ cur1.length = cap * d.sz ∧ (l.length - 1) * d.sz + zs.length ≤ cur1.length ∧ cur2.length = cap * d.sz ∧ cur2.take ((l.length - 1) * d.sz) = flat enc (l.eraseIdx k) := by
  have hfl : (flat enc (l.drop (k + 1))).length = (l.length - (k + 1)) * d.sz := by rw [flat_len F, List.length_drop]
  have e1 : k * d.sz + (l.length - (k + 1)) * d.sz = (l.length - 1) * d.sz := by rw [← Nat.add_mul]; congr 1; omega
  have e2 : (l.length - 1) * d.sz + d.sz = l.length * d.sz := by rw [← Nat.succ_mul]; congr 1; omega
  have e3 : l.length * d.sz ≤ cap * d.sz := Nat.mul_le_mul_right _ hn
  have e4 : k * d.sz ≤ l.length * d.sz := Nat.mul_le_mul_right _ (by omega)
  have hb1 : k * d.sz + (flat enc (l.drop (k + 1))).length ≤ cur.length := by rw [hfl, hcl]; omega
  have hl1 : cur1.length = cap * d.sz := by rw [h1, seg_len _ _ _ hb1, hcl]
  have hb2 : (l.length - 1) * d.sz + zs.length ≤ cur1.length := by rw [hz, hl1]; omega
  refine ⟨hb1, hl1, hb2, by rw [h2, seg_len _ _ _ hb2, hl1], ?_⟩
  rw [h2, seg_low _ _ _ hb2 _ (Nat.le_refl _), h1, seg_take _ _ _ hb1 _ (by rw [hfl]; omega)]
  rw [hfl, e1, List.drop_of_length_le (i := (l.length - 1) * d.sz) (by rw [List.length_take]; omega), List.append_nil]
  have e5 : cur.take (k * d.sz) = flat enc (l.take k) := by
    rw [← flat_take F l k (by omega), ← ht, List.take_take]; congr 1; omega
  rw [e5, ← flat_append, List.eraseIdx_eq_take_drop_succ]
/-- The cells behind an insertion in place: the tail moved up, then the new element. -/
theorem insert_cells (F : Flat d enc) {cur : List Value} {l : List α} {x : α} {cap k : Nat} (hcl : cur.length = cap * d.sz) (hn : l.length + 1 ≤ cap) (ht : cur.take (l.length * d.sz) = flat enc l) (hk : k < l.length)
    {cur1 cur2 : List Value} (h1 : cur1 = cur.take ((k + 1) * d.sz) ++ flat enc (l.drop k) ++ cur.drop ((k + 1) * d.sz + (flat enc (l.drop k)).length)) (h2 : cur2 = cur1.take (k * d.sz) ++ enc x ++ cur1.drop (k * d.sz + (enc x).length)) :
    (k + 1) * d.sz + (flat enc (l.drop k)).length ≤ cur.length ∧ cur1.length = cap * d.sz ∧ k * d.sz + (enc x).length ≤ cur1.length ∧ cur2.length = cap * d.sz ∧ cur2.take ((l.length + 1) * d.sz) = flat enc (l.take k ++ x :: l.drop k) := by
  have hfl : (flat enc (l.drop k)).length = (l.length - k) * d.sz := by rw [flat_len F, List.length_drop]
  have hx := F.len x
  have e0 : (k + 1) * d.sz = k * d.sz + d.sz := Nat.succ_mul _ _
  have e1 : (k + 1) * d.sz + (l.length - k) * d.sz = (l.length + 1) * d.sz := by rw [← Nat.add_mul]; congr 1; omega
  have e3 : (l.length + 1) * d.sz ≤ cap * d.sz := Nat.mul_le_mul_right _ hn
  have e4 : k * d.sz ≤ l.length * d.sz := Nat.mul_le_mul_right _ (by omega)
  have hb1 : (k + 1) * d.sz + (flat enc (l.drop k)).length ≤ cur.length := by rw [hfl, hcl]; omega
  have hl1 : cur1.length = cap * d.sz := by rw [h1, seg_len _ _ _ hb1, hcl]
  have hb2 : k * d.sz + (enc x).length ≤ cur1.length := by rw [hx, hl1]; omega
  refine ⟨hb1, hl1, hb2, by rw [h2, seg_len _ _ _ hb2, hl1], ?_⟩
  rw [h2, seg_take _ _ _ hb2 _ (by rw [hx]; omega)]
  have e6 : cur1.take (k * d.sz) = flat enc (l.take k) := by
    rw [h1, seg_low _ _ _ hb1 _ (by omega), ← flat_take F l k (by omega), ← ht, List.take_take]; congr 1; omega
  have e7 : (cur1.take ((l.length + 1) * d.sz)).drop (k * d.sz + (enc x).length) = flat enc (l.drop k) := by
    rw [h1, seg_take _ _ _ hb1 _ (by rw [hfl]; omega), hfl, e1, List.drop_of_length_le (i := (l.length + 1) * d.sz) (by rw [List.length_take]; omega), List.append_nil, hx, ← e0]
    rw [List.drop_left' (by rw [List.length_take]; omega)]
  rw [e6, e7, flat_append, flat_cons, List.append_assoc]
/-- The cells of a new row behind an insertion: the head, the new element, the tail. -/
theorem grown_cells (F : Flat d enc) {row : List Value} {l : List α} {x : α} {cap k : Nat} (hcl : row.length = cap * d.sz) (hn : l.length + 1 ≤ cap) (hk : k < l.length) (ht : row.take (k * d.sz) = flat enc (l.take k))
    {cur1 cur2 : List Value} (h1 : cur1 = row.take (k * d.sz) ++ enc x ++ row.drop (k * d.sz + (enc x).length)) (h2 : cur2 = cur1.take ((k + 1) * d.sz) ++ flat enc (l.drop k) ++ cur1.drop ((k + 1) * d.sz + (flat enc (l.drop k)).length)) :
    k * d.sz + (enc x).length ≤ row.length ∧ cur1.length = cap * d.sz ∧ (k + 1) * d.sz + (flat enc (l.drop k)).length ≤ cur1.length ∧ cur2.length = cap * d.sz ∧ cur2.take ((l.length + 1) * d.sz) = flat enc (l.take k ++ x :: l.drop k) := by
  have hfl : (flat enc (l.drop k)).length = (l.length - k) * d.sz := by rw [flat_len F, List.length_drop]
  have hx := F.len x
  have e0 : (k + 1) * d.sz = k * d.sz + d.sz := Nat.succ_mul _ _
  have e1 : (k + 1) * d.sz + (l.length - k) * d.sz = (l.length + 1) * d.sz := by rw [← Nat.add_mul]; congr 1; omega
  have e3 : (l.length + 1) * d.sz ≤ cap * d.sz := Nat.mul_le_mul_right _ hn
  have e4 : (k + 1) * d.sz ≤ (l.length + 1) * d.sz := Nat.mul_le_mul_right _ (by omega)
  have hb1 : k * d.sz + (enc x).length ≤ row.length := by rw [hx, hcl]; omega
  have hl1 : cur1.length = cap * d.sz := by rw [h1, seg_len _ _ _ hb1, hcl]
  have hb2 : (k + 1) * d.sz + (flat enc (l.drop k)).length ≤ cur1.length := by rw [hfl, hl1]; omega
  refine ⟨hb1, hl1, hb2, by rw [h2, seg_len _ _ _ hb2, hl1], ?_⟩
  rw [h2, seg_take _ _ _ hb2 _ (by rw [hfl]; omega), hfl, e1, List.drop_of_length_le (i := (l.length + 1) * d.sz) (by rw [List.length_take]; omega), List.append_nil]
  rw [h1, seg_take _ _ _ hb1 _ (by rw [hx]; omega), hx, ← e0, List.drop_of_length_le (i := (k + 1) * d.sz) (by rw [List.length_take]; omega), List.append_nil, ht]
  rw [flat_append, flat_cons, List.append_assoc]
end
end Go.Proofs.Ytkajfadhlgmcjaa
