import Derived.Test.YteibeoipnjhicaaGreatSrw
import Derived.Test.YteibeoipnjhicaaGreatFz
namespace Go.Proofs.YteibeoipnjhicaaGreat
open Go Go.RowKit
set_option linter.unusedVariables false
set_option linter.unusedSimpArgs false
section
variable {P : Program} {fn T sz : Nat}
theorem cells_rows : ∀ (n : Nat) (cs : List Value), cs.length = n * sz → (∀ v ∈ cs, v.oneCell' = true) → ∃ l : List (Cl sz), l.length = n ∧ flat l = cs
  | 0, cs, h, _ => by
    have : cs = [] := List.eq_nil_of_length_eq_zero (by simpa using h)
    subst this; exact ⟨[], rfl, rfl⟩
  | n + 1, cs, h, h1 => by
    rw [Nat.succ_mul] at h
    obtain ⟨l, hl, hf⟩ := cells_rows n (cs.drop sz) (by rw [List.length_drop]; omega) (fun v hv => h1 v (List.mem_of_mem_drop hv))
    refine ⟨⟨cs.take sz, by rw [List.length_take]; omega, fun v hv => h1 v (List.mem_of_mem_take hv)⟩ :: l, by simp [hl], ?_⟩
    rw [flat_cons, hf, List.take_append_drop]
theorem vl_one {w : World} {M σ L} {vs : List Value} {p : PV} (h : VL w M σ L vs [p]) : ∃ v, vs = [v] ∧ VR w M σ L v p := by
  obtain ⟨h1, h2⟩ := h
  match vs, h1 with
  | [v], _ => exact ⟨v, rfl, h2 0 v p rfl rfl⟩
theorem vl_three {w : World} {M σ L} {vs : List Value} {p q r : PV} (h : VL w M σ L vs [p, q, r]) : ∃ a b c, vs = [a, b, c] ∧ VR w M σ L a p ∧ VR w M σ L b q ∧ VR w M σ L c r := by
  obtain ⟨h1, h2⟩ := h
  match vs, h1 with
  | [a, b, c], _ => exact ⟨a, b, c, rfl, h2 0 a p rfl rfl, h2 1 b q rfl rfl, h2 2 c r rfl rfl⟩
def CloneC (P : Program) (fn T sz : Nat) : Prop := ∀ (l : List (Cl sz)) (A : Option Addr) (c : Nat) (w : World), RdC w A l → l.length ≤ c → l.length ≤ 1000000 →
  Calls P fn #[.slice A l.length c] w fun e w' => ∃ v, e = .returned v ∧ RowC T w' w.heap.size v l ∧ Below w.heap.size w w'
/-- The cells that a slice is of. -/
theorem rows_of {w : World} {M0 : Nat → Nat → Prop} {σ : Nat → Gh} {H : Heap} {v : Value} {els : List (List PV)} (hv : VV w M0 σ H v (.sl els)) (hs : ∀ e ∈ els, e.length = sz) :
    ∃ (A : Option Addr) (c : Nat) (l : List (Cl sz)), v = .slice A els.length c ∧ els.length ≤ c ∧ l.length = els.length ∧ RdC w A l ∧ CR w (MU M0 σ H) σ (LV H) (flat l) els.flatten := by
  rcases sl_cases hv with ⟨rfl, A, cap, rfl⟩ | ⟨b, o, sz', cap, f, rfl, hc, hs', hcell, hh⟩
  · exact ⟨A, cap, [], rfl, Nat.zero_le _, rfl, fun h => absurd h (Nat.lt_irrefl 0), ⟨rfl, fun v hv => (List.not_mem_nil hv).elim, fun i v p hv => by simp [flat] at hv⟩⟩
  · obtain ⟨c1, c2⟩ := cr_flat (sz := sz') hcell hh
    obtain ⟨l, hl, hf⟩ := cells_rows (sz := sz) els.length _ (by rw [c1.len, q2r hs]) c1.one
    refine ⟨_, cap, l, rfl, hc, hl, fun _ => ⟨_, rfl, fun j v hj => ?_⟩, by rw [hf]; exact c1⟩
    rw [hf] at hj
    rw [Addr.add_lit]; exact c2 j v hj
theorem clone_csat (hcl : CloneC P fn T sz) {els : List (List PV)} (hs : ∀ e ∈ els, e.length = sz) (hlen : els.length ≤ 1000000) (H : Heap) (m : Nat) : CSat P fn [.sl els] H m (fun out H' m' =>
    (els = [] ∧ out = .ret .bz ∧ H' = H ∧ m' = m) ∨ (out = .ret (.bs m els.length T sz) ∧ H' = hset H m (some (.box els.flatten)) ∧ m' = m + 1)) := by
  intro w M0 σ vs hr hfree hvl
  obtain ⟨v, rfl, hv⟩ := vl_one hvl
  obtain ⟨A, c, l, rfl, hc, hl, hrd, hcr⟩ := rows_of (sz := sz) hv hs
  rw [← hl] at hc ⊢
  refine (hcl l A c w hrd hc (by omega)).mono ?_
  rintro e w' ⟨v, rfl, ho, hb⟩
  have hm : H m = none := hfree m (Nat.le_refl _)
  rcases ho.2 with ⟨rfl, h0⟩ | ⟨g, cap, cur, rfl, hg0, hg, hnc, hcm, hcs, htake⟩
  · have hels : els = [] := List.eq_nil_of_length_eq_zero (by omega)
    exact ⟨.ret .bz, H, m, σ, .inl ⟨hels, rfl, rfl, rfl⟩, hr.all hb.size hb.block, hfree, Nat.le_refl _, Fr.all hb, .bz⟩
  · have hgl : g < w'.heap.size := blk_lt hg
    have hmore := hr.more hb hm (.box els.flatten) ⟨g, cap, 0, T, sz⟩ hg0 hgl (fun l' hl' => by
      cases hl'
      refine ⟨rfl, cur, T, hg, ⟨rfl, hcs, hcm⟩, ?_⟩
      rw [← hcr.len, q5e, htake]; exact hcr) (fun e sz els hl => by cases hl)
    refine ⟨.ret (.bs m l.length T sz), hset H m (some (.box els.flatten)), m + 1, gset σ m ⟨g, cap, 0, T, sz⟩, .inr ⟨rfl, rfl, rfl⟩, hmore.1, fun i hi => by rw [q2g _ _ (by omega)]; exact hfree i (by omega), by omega, hmore.2, ?_⟩
    have := VR.bs (w := w') (M := MU M0 (gset σ m ⟨g, cap, 0, T, sz⟩) (hset H m (some (.box els.flatten)))) (σ := gset σ m ⟨g, cap, 0, T, sz⟩) (L := LV (hset H m (some (.box els.flatten)))) m l.length T sz (gset_lv _) (by rw [q2e]) (by rw [q2e]; exact hnc) (by rw [q2e]) (by rw [q2e])
    rw [q2e] at this
    exact this
/-- A box whose block has been turned otherwise. -/
theorem HR.turn {w : World} {M0 : Nat → Nat → Prop} {σ : Nat → Gh} {H : Heap} (h : HR w M0 σ H) {id : Nat} {l : List PV} (hid : H id = some (.box l)) {w' : World} (hgr : w.grownBy w' (some (σ id).blk)) {c' : Array Value} {t : TypeId} (hc : w'.heap[(σ id).blk]? = some (.cells c' t (0, 0))) {l' : List PV} (hsh : Shp (σ id) t c')
    (hcr : CR w (MU M0 σ H) σ (LV H) (c'.toList.take l'.length) l') : HR w' M0 σ (hset H id (some (.box l'))) ∧ Fr w M0 σ H w' σ (hset H id (some (.box l'))) := by
  have hne : H id ≠ none := by rw [hid]; simp
  have hiff : ∀ i, hset H id (some (.box l')) i ≠ none ↔ H i ≠ none := fun i => by
    by_cases e : i = id
    · subst e; rw [q2p]; simp [hid]
    · rw [q2g _ _ e]
  have hmu : ∀ b o, MU M0 σ (hset H id (some (.box l'))) b o → MU M0 σ H b o := by
    rintro b o (h1 | ⟨i, l1, h1, h2⟩ | ⟨i, e, sz, els, h1, h2, h3⟩)
    · exact .inl h1
    · by_cases e : i = id
      · subst e; exact .inr (.inl ⟨i, l, hid, h2⟩)
      · rw [q2g _ _ e] at h1; exact .inr (.inl ⟨i, l1, h1, h2⟩)
    · by_cases e' : i = id
      · subst e'; rw [q2p] at h1; cases h1
      · rw [q2g _ _ e'] at h1; exact .inr (.inr ⟨i, e, sz, els, h1, h2, h3⟩)
  have hoth : ∀ b, b < w.heap.size → b ≠ (σ id).blk → w'.heap[b]? = w.heap[b]? := fun b hb hn => hgr.block b hb (fun e => hn (Option.some.inj e))
  have E : Ext w (MU M0 σ H) σ (LV H) w' (MU M0 σ (hset H id (some (.box l')))) σ (LV (hset H id (some (.box l')))) := by
    refine ⟨fun b o v h1 h2 => ⟨cell_block h1 (hoth b (q5a h1) (fun e => h2 ?_)), fun h3 => h2 (hmu b o h3)⟩, fun i hi => ⟨(hiff i).2 hi, .inl rfl⟩⟩
    subst e
    exact .inr (.inl ⟨id, l, hid, rfl⟩)
  refine ⟨⟨fun b o hm0 => Nat.lt_of_lt_of_le (h.m0 b o hm0) hgr.size, fun i hi => h.sep i ((hiff i).1 hi), fun i j hi hj => h.inj i j ((hiff i).1 hi) ((hiff j).1 hj), fun i l1 hl1 => ?_, fun i e sz els hl1 => ?_⟩,
    ⟨hgr.os, hgr.tape, hgr.output, hgr.size, fun b hb hn => hoth b hb (fun e => hn id hne e.symm), fun i hi => .inr ⟨i, (hiff i).1 hi, rfl⟩, E⟩⟩
  · by_cases e : i = id
    · subst e
      rw [q2p] at hl1
      cases hl1
      exact ⟨(h.box i l hid).1, c', t, hc, hsh, hcr.mono E⟩
    · rw [q2g _ _ e] at hl1
      obtain ⟨h1, c1, t1, h2, hs1, h3⟩ := h.box i l1 hl1
      exact ⟨h1, c1, t1, (hoth _ (h.lt (by rw [hl1]; simp)) (ne_blk h (by rw [hl1]; simp) hne e)).trans h2, hs1, h3.mono E⟩
  · by_cases e' : i = id
    · subst e'; rw [q2p] at hl1; cases hl1
    · rw [q2g _ _ e'] at hl1
      obtain ⟨h1, h2, h3, xs, h4, h5⟩ := h.row i e sz els hl1
      exact ⟨h1, h2, h3, xs, q5j h4 (hoth _ (h.lt (by rw [hl1]; simp)) (ne_blk h (by rw [hl1]; simp) hne e')), h5.mono E⟩
def InsertC (P : Program) (fn T sz : Nat) : Prop := ∀ (l : List (Cl sz)) (v : Value) (k : Nat) (x : Cl sz) (vb cv base : Nat) (w : World), RowC T w base v l → k ≤ l.length → ∀ {cx : Array Value} {tx : TypeId}, w.heap[vb]? = some (.cells cx tx (0, 0)) → (∀ (j : Nat) (u : Value), x.1[j]? = some u → cx[j]? = some u) → v.ownBlock ≠ some vb → base ≤ w.heap.size → l.length ≤ 1000000 →
  Calls P fn #[v, .int .i64 k, .slice (some ⟨vb, 0, none⟩) 1 cv] w fun e w' => ∃ v', e = .returned v' ∧ RowC T w' base v' (l.take k ++ x :: l.drop k) ∧ Mv w w' v v'
theorem ftake {els : List (List PV)} (hs : ∀ e ∈ els, e.length = sz) (k : Nat) (hk : k ≤ els.length) : (els.take k).flatten = els.flatten.take (k * sz) := by
  have hfl : (els.take k).flatten.length = k * sz := by rw [q2r (sz := sz) (fun e he => hs e (List.mem_of_mem_take he)), List.length_take, Nat.min_eq_left hk]
  conv => rhs; rw [← List.take_append_drop k els, List.flatten_append]
  rw [List.take_left' hfl]
theorem fdrop {els : List (List PV)} (hs : ∀ e ∈ els, e.length = sz) (k : Nat) (hk : k ≤ els.length) : (els.drop k).flatten = els.flatten.drop (k * sz) := by
  have hfl : (els.take k).flatten.length = k * sz := by rw [q2r (sz := sz) (fun e he => hs e (List.mem_of_mem_take he)), List.length_take, Nat.min_eq_left hk]
  conv => rhs; rw [← List.take_append_drop k els, List.flatten_append]
  rw [List.drop_left' hfl]
theorem CR.dropN {w M σ L} {cs : List Value} {l : List PV} (h : CR w M σ L cs l) (n : Nat) : CR w M σ L (cs.drop n) (l.drop n) := by
  have := h.cut n l.length
  rw [List.take_of_length_le (by rw [List.length_drop, h.len]; omega), List.take_of_length_le (by rw [List.length_drop]; omega)] at this
  exact this
theorem CR.takeN {w M σ L} {cs : List Value} {l : List PV} (h : CR w M σ L cs l) (n : Nat) : CR w M σ L (cs.take n) (l.take n) := by
  have := h.cut 0 n
  simpa using this
/-- An own slice, as a row of cells. -/
theorem row_of_bs {w : World} {M0 : Nat → Nat → Prop} {σ : Nat → Gh} {H : Heap} (hr : HR w M0 σ H) {id : Nat} {els : List (List PV)} (hid : H id = some (.box els.flatten)) (hs : ∀ e ∈ els, e.length = sz) {v : Value} (hv : VV w M0 σ H v (.bs id els.length T sz)) :
    ∃ (l : List (Cl sz)) (cur : Array Value), v = .slice (some ⟨(σ id).blk, 0, none⟩) els.length (σ id).cap ∧ l.length = els.length ∧ RowC T w 0 v l ∧ (σ id).ty = T ∧ (σ id).sz = sz ∧ w.heap[(σ id).blk]? = some (.cells cur T (0, 0)) ∧ CR w (MU M0 σ H) σ (LV H) (flat l) els.flatten := by
  cases hv with
  | bs _ _ _ _ hL h0 hc hty hsz =>
    obtain ⟨_, cur, t, hg, ⟨rfl, hcs, hcm⟩, hcr⟩ := hr.box id _ hid
    have hfl := q2r hs
    obtain ⟨l, hl, hf⟩ := cells_rows (sz := sz) els.length (cur.toList.take els.flatten.length) (by rw [hcr.len, hfl]) hcr.one
    refine ⟨l, cur, rfl, hl, ⟨q5e l, .inr ⟨(σ id).blk, (σ id).cap, cur, by rw [hl], Nat.zero_le _, by rw [← hty]; exact hg, by rw [hl]; exact hc, hcm, by rw [hcs, hsz], by rw [hf, hfl, hl]⟩⟩, hty, hsz, by rw [← hty]; exact hg, by rw [hf]; exact hcr⟩
theorem insert_csat (hin : InsertC P fn T sz) {els : List (List PV)} (hs : ∀ e ∈ els, e.length = sz) (hlen : els.length ≤ 1000000) {k : Nat} (hk : k ≤ els.length) {xe : List PV} (hxe : xe.length = sz) {H : Heap} {m id ix e1 z1 : Nat} (hid : H id = some (.box els.flatten)) (hix : H ix = some (.box xe)) (hne : ix ≠ id) :
    CSat P fn [.bs id els.length T sz, .int .i64 k, .bs ix 1 e1 z1] H m (fun out H' m' =>
      (out = .ret (.bs id (els.take k ++ xe :: els.drop k).length T sz) ∧ H' = hset H id (some (.box (els.take k ++ xe :: els.drop k).flatten)) ∧ m' = m) ∨
      (out = .ret (.bs m (els.take k ++ xe :: els.drop k).length T sz) ∧ H' = hset H m (some (.box (els.take k ++ xe :: els.drop k).flatten)) ∧ m' = m + 1)) := by
  intro w M0 σ vs hr hfree hvl
  obtain ⟨v, u1, u2, rfl, hv, hu1, hu2⟩ := vl_three hvl
  cases hu1
  obtain ⟨l, cur, rfl, hl, hrow, hty, hsz, hg, hcr⟩ := row_of_bs (T := T) hr hid hs hv
  cases hu2 with
  | bs _ _ _ _ hL2 h02 hc2 hty2 hsz2 =>
    obtain ⟨_, cx, tx, hgx, hshx, hcrx⟩ := hr.box ix _ hix
    have hxl : (cx.toList.take xe.length).length = sz := by rw [hcrx.len, hxe]
    refine (hin l _ k ⟨cx.toList.take xe.length, hxl, hcrx.one⟩ (σ ix).blk _ 0 w hrow (by omega) hgx (fun j u hj => ?_) ?_ (Nat.zero_le _) (by omega)).mono ?_
    · simp only at hj
      rw [List.getElem?_take] at hj
      split at hj
      · rw [Array.getElem?_toList] at hj; exact hj
      · cases hj
    · intro e
      have : (σ id).blk = (σ ix).blk := by simpa [Value.ownBlock] using e
      exact hne (hr.inj ix id (by rw [hix]; simp) (by rw [hid]; simp) this.symm)
    rintro e w' ⟨v', rfl, hrow', hmv⟩
    obtain ⟨ins, hins⟩ : ∃ ins, ins = els.take k ++ xe :: els.drop k := ⟨_, rfl⟩
    obtain ⟨li, hli⟩ : ∃ li, li = l.take k ++ ⟨cx.toList.take xe.length, hxl, hcrx.one⟩ :: l.drop k := ⟨_, rfl⟩
    rw [← hins]
    rw [← hli] at hrow'
    have hes : ins.length = li.length := by rw [hins, hli]; simp only [List.length_append, List.length_cons, List.length_take, List.length_drop, hl]
    have hse : ∀ e ∈ ins, e.length = sz := fun e he => by
      rw [hins] at he
      rcases List.mem_append.1 he with he | he
      · exact hs e (List.mem_of_mem_take he)
      · rcases List.mem_cons.1 he with rfl | he
        · exact hxe
        · exact hs e (List.mem_of_mem_drop he)
    have hcr2 : CR w (MU M0 σ H) σ (LV H) (flat li) ins.flatten := by
      rw [hli, hins, q5r, flat_cons, List.flatten_append, List.flatten_cons, ← flat_take l k (by omega), ← flat_drop l k (by omega), ftake hs k (by omega), fdrop hs k (by omega)]
      exact (hcr.takeN _).append (hcrx.append (hcr.dropN _))
    have hm : H m = none := hfree m (Nat.le_refl _)
    rcases hrow'.2 with ⟨h0, h00⟩ | ⟨g', cap', cur', rfl, _, hg', hn', hm', hs', ht'⟩
    · exfalso
      rw [hli] at h00
      simp at h00
    · rcases hmv with ⟨⟨A, n, n', c, e1, e5⟩, hgr⟩ | ⟨hown, hb⟩
      · injection e1 with e2 e3 e4
        subst e2; subst e4
        injection e5 with e6 e7 e8
        injection e6 with e6; injection e6 with e6
        subst e6; subst e8
        have hT := hr.turn hid (by simpa [Value.ownBlock] using hgr) (c' := cur') (t := T) hg' (l' := ins.flatten) ⟨hty.symm, by rw [hs', hsz], hm'⟩ (by rw [q2r hse, hes, ht']; exact hcr2)
        refine ⟨_, _, m, σ, .inl ⟨rfl, rfl, rfl⟩, hT.1, fun i hi => ?_, Nat.le_refl _, hT.2, ?_⟩
        · have : i ≠ id := fun e => by subst e; rw [hfree i hi] at hid; cases hid
          rw [q2g _ _ this]; exact hfree i hi
        · rw [← hes]
          exact .bs id _ T sz (gset_lv _) (hr.box id _ hid).1 (by rw [hes]; exact hn') hty hsz
      · have hgw : g' = w.heap.size := by simpa [Value.ownBlock] using hown
        subst hgw
        have hmore := hr.more hb hm (.box ins.flatten) ⟨w.heap.size, cap', 0, T, sz⟩ (Nat.le_refl _) (blk_lt hg') (fun l' hl' => by
          cases hl'
          refine ⟨rfl, cur', T, hg', ⟨rfl, hs', hm'⟩, ?_⟩
          rw [q2r hse, hes, ht']; exact hcr2) (fun e sz els hl => by cases hl)
        refine ⟨_, _, m + 1, gset σ m ⟨w.heap.size, cap', 0, T, sz⟩, .inr ⟨rfl, rfl, rfl⟩, hmore.1, fun i hi => by rw [q2g _ _ (by omega)]; exact hfree i (by omega), by omega, hmore.2, ?_⟩
        have := VR.bs (w := w') (M := MU M0 (gset σ m ⟨w.heap.size, cap', 0, T, sz⟩) (hset H m (some (.box ins.flatten)))) (σ := gset σ m ⟨w.heap.size, cap', 0, T, sz⟩) (L := LV (hset H m (some (.box ins.flatten)))) m ins.length T sz (gset_lv _) (by rw [q2e]) (by rw [q2e, hes]; exact hn') (by rw [q2e]) (by rw [q2e])
        rw [q2e] at this
        rw [← hes]
        exact this
/-- Into nothing. -/
theorem insert0_csat (hin : InsertC P fn T sz) {xe : List PV} (hxe : xe.length = sz) {H : Heap} {m ix e1 z1 : Nat} (hix : H ix = some (.box xe)) :
    CSat P fn [.bz, .int .i64 ((0 : Nat) : Int), .bs ix 1 e1 z1] H m (fun out H' m' => out = .ret (.bs m 1 T sz) ∧ H' = hset H m (some (.box [xe].flatten)) ∧ m' = m + 1) := by
  intro w M0 σ vs hr hfree hvl
  obtain ⟨v, u1, u2, rfl, hv, hu1, hu2⟩ := vl_three hvl
  cases hu1
  cases hv with
  | bz =>
  cases hu2 with
  | bs _ _ _ _ hL2 h02 hc2 hty2 hsz2 =>
    obtain ⟨_, cx, tx, hgx, hshx, hcrx⟩ := hr.box ix _ hix
    have hxl : (cx.toList.take xe.length).length = sz := by rw [hcrx.len, hxe]
    refine (hin [] (.slice none 0 0) 0 ⟨cx.toList.take xe.length, hxl, hcrx.one⟩ (σ ix).blk _ 0 w ⟨by simp [flat], .inl ⟨rfl, rfl⟩⟩ (Nat.le_refl _) hgx (fun j u hj => ?_) (by simp [Value.ownBlock]) (Nat.zero_le _) (by simp)).mono ?_
    · simp only at hj
      rw [List.getElem?_take] at hj
      split at hj
      · rw [Array.getElem?_toList] at hj; exact hj
      · cases hj
    rintro e w' ⟨v', rfl, hrow', hmv⟩
    have hm : H m = none := hfree m (Nat.le_refl _)
    rcases hrow'.2 with ⟨h0, h00⟩ | ⟨g', cap', cur', rfl, _, hg', hn', hm', hs', ht'⟩
    · simp at h00
    · rcases hmv with ⟨⟨A, n, n', c, e1, e5⟩, hgr⟩ | ⟨hown, hb⟩
      · injection e1 with e2 e3 e4
        subst e2
        cases e5
      · have hgw : g' = w.heap.size := by simpa [Value.ownBlock] using hown
        subst hgw
        have hmore := hr.more hb hm (.box [xe].flatten) ⟨w.heap.size, cap', 0, T, sz⟩ (Nat.le_refl _) (blk_lt hg') (fun l' hl' => by
          cases hl'
          refine ⟨rfl, cur', T, hg', ⟨rfl, hs', hm'⟩, ?_⟩
          have h1 : [xe].flatten.length = sz := by simp [hxe]
          have h2 : [xe].flatten = xe := by simp
          simp only [List.take_nil, List.nil_append, List.drop_nil, List.length_cons, List.length_nil, Nat.zero_add, Nat.one_mul] at ht'
          rw [h1, h2, ht', flat_cons, flat_nil, List.append_nil]
          exact hcrx) (fun e sz els hl => by cases hl)
        refine ⟨_, _, m + 1, gset σ m ⟨w.heap.size, cap', 0, T, sz⟩, ⟨rfl, rfl, rfl⟩, hmore.1, fun i hi => by rw [q2g _ _ (by omega)]; exact hfree i (by omega), by omega, hmore.2, ?_⟩
        have := VR.bs (w := w') (M := MU M0 (gset σ m ⟨w.heap.size, cap', 0, T, sz⟩) (hset H m (some (.box [xe].flatten)))) (σ := gset σ m ⟨w.heap.size, cap', 0, T, sz⟩) (L := LV (hset H m (some (.box [xe].flatten)))) m 1 T sz (gset_lv _) (by rw [q2e]) (by rw [q2e]; simpa using hn') (by rw [q2e]) (by rw [q2e])
        rw [q2e] at this
        exact this
end
end Go.Proofs.YteibeoipnjhicaaGreat
