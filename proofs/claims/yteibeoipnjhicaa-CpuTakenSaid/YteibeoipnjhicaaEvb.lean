import Derived.Test.YteibeoipnjhicaaEva
namespace Go.Proofs.Yteibeoipnjhicaa
open Go Go.RowKit
set_option linter.unusedVariables false
set_option linter.unusedSimpArgs false
/-! Steps of the world: a new box, a box written to, a row that grows. -/
def splice {α : Type} (l : List α) (off : Nat) (x : List α) : List α := l.take off ++ x ++ l.drop (off + x.length)
theorem splice_len {α : Type} (l : List α) (off : Nat) (x : List α) (h : off + x.length ≤ l.length) : (splice l off x).length = l.length := by
  simp only [splice, List.length_append, List.length_take, List.length_drop]; omega
theorem splice_take {α : Type} (l : List α) (off : Nat) (x : List α) (n : Nat) (h : off + x.length ≤ n) (hn : n ≤ l.length) : (splice l off x).take n = splice (l.take n) off x := by
  unfold splice
  rw [List.take_append, List.take_of_length_le (by rw [List.length_append, List.length_take]; omega), List.take_take, List.length_append, List.length_take, List.drop_take]
  congr 2
  · congr 1; omega
  · omega
theorem splice_get {α : Type} (l : List α) (off : Nat) (x : List α) (h : off + x.length ≤ l.length) (i : Nat) :
    (splice l off x)[i]? = if off ≤ i ∧ i < off + x.length then x[i - off]? else l[i]? := by
  unfold splice
  have ht : (l.take off).length = off := by rw [List.length_take]; omega
  by_cases h1 : off ≤ i
  · by_cases h2 : i < off + x.length
    · rw [if_pos ⟨h1, h2⟩, List.append_assoc, List.getElem?_append_right (by omega), ht, List.getElem?_append_left (by omega)]
    · rw [if_neg (by omega), List.getElem?_append_right (by rw [List.length_append]; omega), List.length_append, ht, List.getElem?_drop]
      congr 1; omega
  · rw [if_neg (by omega), List.append_assoc, List.getElem?_append_left (by omega), List.getElem?_take, if_pos (by omega)]
theorem CR.splice {w M σ L} {cs : List Value} {l : List PV} {vs : List Value} {ps : List PV} (h : CR w M σ L cs l) (k : CR w M σ L vs ps) {off : Nat} (hf : off + ps.length ≤ l.length) : CR w M σ L (splice cs off vs) (splice l off ps) := by
  have hv : off + vs.length ≤ cs.length := by rw [k.len, h.len]; exact hf
  refine ⟨by rw [splice_len _ _ _ hv, splice_len _ _ _ hf, h.len], fun v hm => ?_, fun i v p hv' hp => ?_⟩
  · simp only [Go.Proofs.Yteibeoipnjhicaa.splice, List.mem_append] at hm
    rcases hm with (hm | hm) | hm
    · exact h.one v (List.mem_of_mem_take hm)
    · exact k.one v hm
    · exact h.one v (List.mem_of_mem_drop hm)
  · rw [splice_get _ _ _ hv] at hv'
    rw [splice_get _ _ _ hf] at hp
    rw [k.len] at hv'
    split at hp
    · rename_i hc; rw [if_pos hc] at hv'; exact k.rel _ v p hv' hp
    · rename_i hc; rw [if_neg hc] at hv'; exact h.rel _ v p hv' hp
theorem CR.append {w M σ L} {cs : List Value} {l : List PV} {vs : List Value} {ps : List PV} (h : CR w M σ L cs l) (k : CR w M σ L vs ps) : CR w M σ L (cs ++ vs) (l ++ ps) := by
  refine ⟨by simp [h.len, k.len], fun v hm => ?_, fun i v p hv hp => ?_⟩
  · rcases List.mem_append.1 hm with hm | hm
    · exact h.one v hm
    · exact k.one v hm
  · by_cases hi : i < cs.length
    · rw [List.getElem?_append_left hi] at hv; rw [List.getElem?_append_left (by rw [← h.len]; exact hi)] at hp; exact h.rel i v p hv hp
    · rw [List.getElem?_append_right (by omega)] at hv; rw [List.getElem?_append_right (by rw [← h.len]; omega)] at hp
      rw [h.len] at hv
      exact k.rel _ v p hv hp
theorem ne_blk {w M0 σ H} (h : HR w M0 σ H) {i j : Nat} (hi : H i ≠ none) (hj : H j ≠ none) (hne : i ≠ j) : (σ i).blk ≠ (σ j).blk := fun e => hne (h.inj i j hi hj e)
section
variable {w : World} {M0 : Nat → Nat → Prop} {σ : Nat → Gh} {H : Heap}
theorem new_state (h : HR w M0 σ H) {w' : World} (hsz : w.heap.size ≤ w'.heap.size) (hbs : ∀ b, b < w.heap.size → w'.heap[b]? = w.heap[b]?) {m g : Nat} (hm : H m = none) (hg : w.heap.size ≤ g) (hg' : g < w'.heap.size) (x : HE) (gh : Gh) (hgh : gh.blk = g)
    (hx : ∀ b o, MU M0 (gset σ m gh) (hset H m (some x)) b o → MU M0 σ H b o ∨ b = g) :
    Ext w (MU M0 σ H) σ (LV H) w' (MU M0 (gset σ m gh) (hset H m (some x))) (gset σ m gh) (LV (hset H m (some x))) ∧
    (∀ id, hset H m (some x) id ≠ none → id = m ∨ (id ≠ m ∧ H id ≠ none)) := by
  refine ⟨⟨fun b o v h1 h2 => ⟨cell_block h1 (hbs b (block_of_cell h1)), fun hm' => ?_⟩, fun id hid => ?_⟩, fun id hid => ?_⟩
  · rcases hx b o hm' with h3 | h3
    · exact h2 h3
    · have := block_of_cell h1; omega
  · have hne : id ≠ m := fun e => hid (by rw [e]; exact hm)
    exact ⟨by unfold LV; rw [hset_ne _ _ hne]; exact hid, .inl (gset_ne _ _ hne)⟩
  · by_cases e : id = m
    · exact .inl e
    · rw [hset_ne _ _ e] at hid; exact .inr ⟨e, hid⟩
theorem mu_new {m : Nat} (hm : H m = none) (x : HE) (gh : Gh) (b o : Nat) (h : MU M0 (gset σ m gh) (hset H m (some x)) b o) : MU M0 σ H b o ∨ b = gh.blk := by
  rcases h with h | ⟨id, l, h1, h2⟩ | ⟨id, e, sz, els, h1, h2, h3⟩
  · exact .inl (.inl h)
  · by_cases e : id = m
    · subst e; rw [gset_same] at h2; exact .inr h2.symm
    · rw [hset_ne _ _ e] at h1; rw [gset_ne _ _ e] at h2; exact .inl (.inr (.inl ⟨id, l, h1, h2⟩))
  · by_cases e : id = m
    · subst e; rw [gset_same] at h2; exact .inr h2.symm
    · rw [hset_ne _ _ e] at h1; rw [gset_ne _ _ e] at h2; exact .inl (.inr (.inr ⟨id, _, sz, els, h1, h2, h3⟩))
/-- A state with one more own block. -/
theorem HR.more (h : HR w M0 σ H) {w' : World} (hb : Below w.heap.size w w') {m : Nat} (hm : H m = none) (x : HE) (gh : Gh) (hg : w.heap.size ≤ gh.blk) (hg' : gh.blk < w'.heap.size)
    (hbox : ∀ l, x = .box l → gh.len = 0 ∧ ∃ (c : Array Value) (t : TypeId), w'.heap[gh.blk]? = some (.cells c t (0, 0)) ∧ Shp gh t c ∧ CR w (MU M0 σ H) σ (LV H) (c.toList.take l.length) l)
    (hrow : ∀ e sz els, x = .row e sz els → 0 < els.length ∧ gh.len = els.length ∧ (∀ y ∈ els, y.length = sz) ∧ ∃ xs, w'.ownsRow 0 e sz (.slice (some ⟨gh.blk, 0, none⟩) els.length gh.cap) els.length xs ∧ CR w (MU M0 σ H) σ (LV H) xs els.flatten) :
    HR w' M0 (gset σ m gh) (hset H m (some x)) ∧ Fr w M0 σ H w' (gset σ m gh) (hset H m (some x)) := by
  have hbs : ∀ b, b < w.heap.size → w'.heap[b]? = w.heap[b]? := hb.block
  obtain ⟨E, hid⟩ := new_state h hb.size hbs hm hg hg' x gh rfl (fun b o hmu => mu_new hm x gh b o hmu)
  refine ⟨⟨fun b o hm0 => Nat.lt_of_lt_of_le (h.m0 b o hm0) hb.size, fun id hne o hm0 => ?_, fun i j hi hj he => ?_, fun id l hl => ?_, fun id e sz els hl => ?_⟩, ⟨hb.os, hb.tape, hb.output, hb.size, fun b hlt _ => hbs b hlt, fun id hne => ?_, E⟩⟩
  · rcases hid id hne with rfl | ⟨e, hne⟩
    · rw [gset_same] at hm0; have := h.m0 _ _ hm0; omega
    · rw [gset_ne _ _ e] at hm0; exact h.sep id hne o hm0
  · rcases hid i hi with e1 | ⟨e1, hi2⟩ <;> rcases hid j hj with e2 | ⟨e2, hj2⟩
    · rw [e1, e2]
    · rw [e1, gset_same, gset_ne _ _ e2] at he; have := h.lt hj2; omega
    · rw [e2, gset_same, gset_ne _ _ e1] at he; have := h.lt hi2; omega
    · rw [gset_ne _ _ e1, gset_ne _ _ e2] at he; exact h.inj i j hi2 hj2 he
  · by_cases e : id = m
    · subst e
      rw [hset_same] at hl
      obtain ⟨h1, c, t, h2, hsh, h3⟩ := hbox l (Option.some.inj hl)
      rw [gset_same]
      exact ⟨h1, c, t, h2, hsh, h3.mono E⟩
    · rw [hset_ne _ _ e] at hl
      obtain ⟨h1, c, t, h2, hsh, h3⟩ := h.box id l hl
      rw [gset_ne _ _ e]
      exact ⟨h1, c, t, (hbs _ (h.lt (by rw [hl]; simp))).trans h2, hsh, h3.mono E⟩
  · by_cases e : id = m
    · subst e
      rw [hset_same] at hl
      obtain ⟨h1, h2, h3, xs, h4, h5⟩ := hrow _ sz els (Option.some.inj hl)
      rw [gset_same]
      exact ⟨h1, h2, h3, xs, h4, h5.mono E⟩
    · rw [hset_ne _ _ e] at hl
      obtain ⟨h1, h2, h3, xs, h4, h5⟩ := h.row id _ sz els hl
      rw [gset_ne _ _ e]
      exact ⟨h1, h2, h3, xs, ownsRow_block h4 (hbs _ (h.lt (by rw [hl]; simp))), h5.mono E⟩
  · rcases hid id hne with rfl | ⟨e, hne⟩
    · rw [gset_same]; exact .inl hg
    · rw [gset_ne _ _ e]; exact .inr ⟨id, hne, rfl⟩
theorem below_new (w : World) (o : Obj) : Below w.heap.size w (w.alloc o) := (Below.refl _ _).alloc (Nat.le_refl _) o
/-- A new box. -/
theorem HR.new (h : HR w M0 σ H) {m : Nat} (hm : H m = none) (c : Array Value) (t : TypeId) (l : List PV) (hc : CR w (MU M0 σ H) σ (LV H) c.toList l) (n sz : Nat) (hcs : c.size = n * sz) (hn : n ≤ maxLen) :
    HR (w.alloc (.cells c t)) M0 (gset σ m ⟨w.heap.size, n, 0, t, sz⟩) (hset H m (some (.box l))) ∧ Fr w M0 σ H (w.alloc (.cells c t)) (gset σ m ⟨w.heap.size, n, 0, t, sz⟩) (hset H m (some (.box l))) := by
  refine h.more (below_new w _) hm (.box l) ⟨w.heap.size, n, 0, t, sz⟩ (Nat.le_refl _) (by simp) (fun l' e => ?_) (fun e sz els e' => by cases e')
  cases e
  exact ⟨rfl, c, t, heap_alloc_new w _, ⟨rfl, hcs, hn⟩, by rw [← hc.len, List.take_length]; exact hc⟩
/-- What follows from a box that is written to. -/
theorem HR.put (h : HR w M0 σ H) {id : Nat} {l : List PV} (hid : H id = some (.box l)) {c : Array Value} {t : TypeId} (hc : w.heap[(σ id).blk]? = some (.cells c t (0, 0))) {l' : List PV} {c' : Array Value} (hl : l'.length = l.length) (hcz : c'.size = c.size)
    (hcr : CR w (MU M0 σ H) σ (LV H) (c'.toList.take l'.length) l') :
    HR (w.setRow (σ id).blk c') M0 σ (hset H id (some (.box l'))) ∧ Fr w M0 σ H (w.setRow (σ id).blk c') σ (hset H id (some (.box l'))) := by
  have hne : H id ≠ none := by rw [hid]; simp
  have hiff : ∀ i, hset H id (some (.box l')) i ≠ none ↔ H i ≠ none := fun i => by
    by_cases e : i = id
    · subst e; rw [hset_same]; simp [hid]
    · rw [hset_ne _ _ e]
  have hmu : ∀ b o, MU M0 σ (hset H id (some (.box l'))) b o → MU M0 σ H b o := by
    rintro b o (h1 | ⟨i, l1, h1, h2⟩ | ⟨i, e, sz, els, h1, h2, h3⟩)
    · exact .inl h1
    · by_cases e : i = id
      · subst e; exact .inr (.inl ⟨i, l, hid, h2⟩)
      · rw [hset_ne _ _ e] at h1; exact .inr (.inl ⟨i, l1, h1, h2⟩)
    · by_cases e' : i = id
      · subst e'; rw [hset_same] at h1; cases h1
      · rw [hset_ne _ _ e'] at h1; exact .inr (.inr ⟨i, e, sz, els, h1, h2, h3⟩)
  have E : Ext w (MU M0 σ H) σ (LV H) (w.setRow (σ id).blk c') (MU M0 σ (hset H id (some (.box l')))) σ (LV (hset H id (some (.box l')))) := by
    refine ⟨fun b o v h1 h2 => ⟨cell_block h1 (setRow_other w _ _ _ (fun e => h2 ?_)), fun h3 => h2 (hmu b o h3)⟩, fun i hi => ⟨(hiff i).2 hi, .inl rfl⟩⟩
    subst e
    exact .inr (.inl ⟨id, l, hid, rfl⟩)
  refine ⟨⟨fun b o hm0 => by rw [setRow_size]; exact h.m0 b o hm0, fun i hi => h.sep i ((hiff i).1 hi), fun i j hi hj => h.inj i j ((hiff i).1 hi) ((hiff j).1 hj), fun i l1 hl1 => ?_, fun i e sz els hl1 => ?_⟩,
    ⟨rfl, rfl, rfl, by simp, fun b hb hn => setRow_other w _ _ _ (fun e => hn id hne e.symm), fun i hi => .inr ⟨i, (hiff i).1 hi, rfl⟩, E⟩⟩
  · by_cases e : i = id
    · subst e
      rw [hset_same] at hl1
      cases hl1
      obtain ⟨g1, c0, t0, g2, g3, _⟩ := h.box i l hid
      have e0 := g2.symm.trans hc
      cases e0
      exact ⟨g1, c', t, setRow_heap w _ _ _ t _ hc, ⟨g3.1, hcz.trans g3.2.1, g3.2.2⟩, hcr.mono E⟩
    · rw [hset_ne _ _ e] at hl1
      obtain ⟨h1, c1, t1, h2, hsh, h3⟩ := h.box i l1 hl1
      exact ⟨h1, c1, t1, (setRow_other w _ _ _ (ne_blk h (by rw [hl1]; simp) hne e)).trans h2, hsh, h3.mono E⟩
  · by_cases e' : i = id
    · subst e'; rw [hset_same] at hl1; cases hl1
    · rw [hset_ne _ _ e'] at hl1
      obtain ⟨h1, h2, h3, xs, h4, h5⟩ := h.row i e sz els hl1
      exact ⟨h1, h2, h3, xs, ownsRow_block h4 (setRow_other w _ _ _ (ne_blk h (by rw [hl1]; simp) hne e')), h5.mono E⟩
/-- A row that has grown, in place or in a new block. -/
theorem HR.grown (h : HR w M0 σ H) {id e sz : Nat} {els els' : List (List PV)} (hid : H id = some (.row e sz els)) {w' : World} {gh : Gh} (hgr : w.grownBy w' (some (σ id).blk)) (hlen : els.length < els'.length) (hgl : gh.len = els'.length) (hsz : ∀ x ∈ els', x.length = sz)
    (hg : gh.blk = (σ id).blk ∨ w.heap.size ≤ gh.blk) (hlow : ∀ o v, o < els.length * sz → w.cell? ⟨(σ id).blk, o, none⟩ = some v → w'.cell? ⟨(σ id).blk, o, none⟩ = some v)
    {xs : List Value} (ho : w'.ownsRow 0 e sz (.slice (some ⟨gh.blk, 0, none⟩) els'.length gh.cap) els'.length xs) (hcr : CR w (MU M0 σ H) σ (LV H) xs els'.flatten) :
    HR w' M0 (gset σ id gh) (hset H id (some (.row e sz els'))) ∧ Fr w M0 σ H w' (gset σ id gh) (hset H id (some (.row e sz els'))) := by
  have hne : H id ≠ none := by rw [hid]; simp
  obtain ⟨r1, r2, r3, xs0, r4, r5⟩ := h.row id e sz els hid
  have hbl := h.lt hne
  have hgl' : gh.blk < w'.heap.size := (ho.lt _ rfl).2
  have hiff : ∀ i, hset H id (some (.row e sz els')) i ≠ none ↔ H i ≠ none := fun i => by
    by_cases e' : i = id
    · subst e'; rw [hset_same]; simp [hid]
    · rw [hset_ne _ _ e']
  have hcap : els.length * sz ≤ els'.length * sz := Nat.mul_le_mul_right _ (by omega)
  have hmu : ∀ b o, MU M0 (gset σ id gh) (hset H id (some (.row e sz els'))) b o → MU M0 σ H b o ∨ w.heap.size ≤ b := by
    rintro b o (h1 | ⟨i, l1, h1, h2⟩ | ⟨i, e1, sz1, els1, h1, h2, h3⟩)
    · exact .inl (.inl h1)
    · by_cases e' : i = id
      · subst e'; rw [hset_same] at h1; cases h1
      · rw [hset_ne _ _ e'] at h1; rw [gset_ne _ _ e'] at h2; exact .inl (.inr (.inl ⟨i, l1, h1, h2⟩))
    · by_cases e' : i = id
      · subst e'
        rw [hset_same] at h1; rw [gset_same] at h2
        cases h1
        rcases hg with hg | hg
        · exact .inl (.inr (.inr ⟨i, e, sz, els, hid, by rw [← h2, hg], by omega⟩))
        · exact .inr (by omega)
      · rw [hset_ne _ _ e'] at h1; rw [gset_ne _ _ e'] at h2; exact .inl (.inr (.inr ⟨i, e1, sz1, els1, h1, h2, h3⟩))
  have E : Ext w (MU M0 σ H) σ (LV H) w' (MU M0 (gset σ id gh) (hset H id (some (.row e sz els')))) (gset σ id gh) (LV (hset H id (some (.row e sz els')))) := by
    refine ⟨fun b o v h1 h2 => ⟨?_, fun h3 => ?_⟩, fun i hi => ⟨(hiff i).2 hi, ?_⟩⟩
    · by_cases eb : b = (σ id).blk
      · subst eb
        refine hlow o v (Nat.lt_of_not_le fun hle => h2 ?_) h1
        exact .inr (.inr ⟨id, e, sz, els, hid, rfl, hle⟩)
      · exact cell_block h1 (hgr.block b (block_of_cell h1) (by simpa using eb))
    · rcases hmu b o h3 with h4 | h4
      · exact h2 h4
      · have := block_of_cell h1; omega
    · by_cases e' : i = id
      · subst e'; rw [gset_same]; exact .inr ⟨by omega, by omega⟩
      · exact .inl (gset_ne _ _ e')
  have hbo : ∀ i, i ≠ id → H i ≠ none → w'.heap[(σ i).blk]? = w.heap[(σ i).blk]? := fun i e' hi => hgr.block _ (h.lt hi) (by simpa using ne_blk h hi hne e')
  refine ⟨⟨fun b o hm0 => Nat.lt_of_lt_of_le (h.m0 b o hm0) hgr.size, fun i hi o hm0 => ?_, fun i j hi hj he => ?_, fun i l1 hl1 => ?_, fun i e1 sz1 els1 hl1 => ?_⟩,
    ⟨hgr.os, hgr.tape, hgr.output, hgr.size, fun b hb hn => hgr.block b hb (fun e' => hn id hne (Option.some.inj e').symm), fun i hi => ?_, E⟩⟩
  · by_cases e' : i = id
    · subst e'
      rw [gset_same] at hm0
      rcases hg with hg | hg
      · rw [hg] at hm0; exact h.sep i hne o hm0
      · have := h.m0 _ _ hm0; omega
    · rw [gset_ne _ _ e'] at hm0; exact h.sep i ((hiff i).1 hi) o hm0
  · by_cases e1 : i = id <;> by_cases e2 : j = id
    · rw [e1, e2]
    · subst e1
      rw [gset_same, gset_ne _ _ e2] at he
      have hj' := (hiff j).1 hj
      rcases hg with hg | hg
      · rw [hg] at he; exact h.inj i j hne hj' he
      · have := h.lt hj'; omega
    · subst e2
      rw [gset_same, gset_ne _ _ e1] at he
      have hi' := (hiff i).1 hi
      rcases hg with hg | hg
      · rw [hg] at he; exact h.inj i j hi' hne he
      · have := h.lt hi'; omega
    · rw [gset_ne _ _ e1, gset_ne _ _ e2] at he; exact h.inj i j ((hiff i).1 hi) ((hiff j).1 hj) he
  · by_cases e' : i = id
    · subst e'; rw [hset_same] at hl1; cases hl1
    · rw [hset_ne _ _ e'] at hl1
      obtain ⟨h1, c1, t1, h2, hsh, h3⟩ := h.box i l1 hl1
      rw [gset_ne _ _ e']
      exact ⟨h1, c1, t1, (hbo i e' (by rw [hl1]; simp)).trans h2, hsh, h3.mono E⟩
  · by_cases e' : i = id
    · subst e'
      rw [hset_same] at hl1
      cases hl1
      rw [gset_same]
      exact ⟨by omega, hgl, hsz, xs, ho, hcr.mono E⟩
    · rw [hset_ne _ _ e'] at hl1
      obtain ⟨h1, h2, h3, xs1, h4, h5⟩ := h.row i _ sz1 els1 hl1
      rw [gset_ne _ _ e']
      exact ⟨h1, h2, h3, xs1, ownsRow_block h4 (hbo i e' (by rw [hl1]; simp)), h5.mono E⟩
  · by_cases e' : i = id
    · subst e'
      rw [gset_same]
      rcases hg with hg | hg
      · exact .inr ⟨i, hne, hg.symm⟩
      · exact .inl hg
    · rw [gset_ne _ _ e']; exact .inr ⟨i, (hiff i).1 hi, rfl⟩
end
end Go.Proofs.Yteibeoipnjhicaa
