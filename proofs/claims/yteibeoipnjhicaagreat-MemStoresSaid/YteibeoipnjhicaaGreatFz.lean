import Derived.Test.YteibeoipnjhicaaGreatEvr
namespace Go.Proofs.YteibeoipnjhicaaGreat
open Go Go.RowKit
set_option linter.unusedVariables false
set_option linter.unusedSimpArgs false
inductive Fz (H : Heap) : PV → PV → Prop
  | same (p) (h : NoId p) : Fz H p p
  | bs (id n e0 z0 l els sz) (hid : H id = some (.box l)) (hn : els.length = n) (hs : ∀ e ∈ els, e.length = sz) (hl : els.flatten = l.take (n * sz)) (hb : ∀ p ∈ els.flatten, NoId p) : Fz H (.bs id n e0 z0) (.sl els)
  | bz : Fz H .bz (.sl [])
  | agg (l l') (hlen : l.length = l'.length) (h : ∀ (i : Nat) (p q : PV), l[i]? = some p → l'[i]? = some q → Fz H p q) : Fz H (.agg l) (.agg l')
  | tup (l l') (hlen : l.length = l'.length) (h : ∀ (i : Nat) (p q : PV), l[i]? = some p → l'[i]? = some q → Fz H p q) : Fz H (.tup l) (.tup l')
theorem fz_sound {w : World} {M0 : Nat → Nat → Prop} {σ : Nat → Gh} {H : Heap} (h : HR w M0 σ H) {M : Nat → Nat → Prop} {σ' : Nat → Gh} {L' : Nat → Prop} (hM : ∀ b o v, w.cell? ⟨b, o, none⟩ = some v → ¬ MU M0 σ H b o → ¬ M b o) (hown : ∀ id, H id ≠ none → ∀ o, ¬ M (σ id).blk o)
    {v : Value} {p q : PV} (hv : VV w M0 σ H v p) (hf : Fz H p q) : VR w M σ' L' v q := by
  induction hf generalizing v with
  | same p hn => exact hv.bd hM (fun _ h => h.elim) hn
  | bs id n e0 z0 l els sz hid hn hs hl hb =>
    subst hn
    cases hv with
    | bs _ _ _ _ hL h0 hc _ _ =>
      obtain ⟨_, c, t, hg, _, hcr⟩ := h.box id l hid
      have key : ∀ (q : Nat) (p : PV), els.flatten[q]? = some p → ∃ v, c[q]? = some v ∧ VV w M0 σ H v p ∧ v.oneCell' = true := fun q p hq => by
        have hq' : l[q]? = some p := by
          rw [hl, List.getElem?_take] at hq
          split at hq
          · exact hq
          · cases hq
        obtain ⟨v, hv, hr, h1⟩ := hcr.get hq'
        rw [List.getElem?_take] at hv
        split at hv
        · exact ⟨v, by rw [← Array.getElem?_toList]; exact hv, hr, h1⟩
        · cases hv
      refine .sl _ 0 sz _ els hc hs (fun q => (c[q]?).getD undef) (fun q p hq => ?_) (fun q p hq => ?_)
      · obtain ⟨v, hv, hr, h1⟩ := key q p hq
        rw [hv]
        refine ⟨?_, hown id (by rw [hid]; simp) _, h1⟩
        rw [Nat.zero_add, cell_of_row w _ q c t (0, 0) hg]; exact hv
      · obtain ⟨v, hv, hr, h1⟩ := key q p hq
        rw [hv]
        exact hr.bd hM (fun _ h => h.elim) (hb p (q4h hq))
  | bz => cases hv with | bz => exact .sl0 none 0
  | agg l l' hlen hh ih =>
    cases hv with
    | agg cs _ hl h1 hv =>
      refine .agg cs l' (hl.trans hlen) h1 (fun i v q hv' hq => ?_)
      have hi : i < l.length := by rw [hlen]; exact (List.getElem?_eq_some_iff.1 hq).1
      exact ih i _ q (List.getElem?_eq_getElem hi) hq (hv i v _ hv' (List.getElem?_eq_getElem hi))
  | tup l l' hlen hh ih =>
    cases hv with
    | tup cs _ hl hv =>
      refine .tup cs l' (hl.trans hlen) (fun i v q hv' hq => ?_)
      have hi : i < l.length := by rw [hlen]; exact (List.getElem?_eq_some_iff.1 hq).1
      exact ih i _ q (List.getElem?_eq_getElem hi) hq (hv i v _ hv' (List.getElem?_eq_getElem hi))
theorem pure_frz {P : Program} {f : FuncId} {args : List PV} {r : PV} (ha : BdL (fun _ => False) args) (h : CSat P f args (fun _ => none) 0 (fun out H' _ => ∃ r', out = .ret r' ∧ Fz H' r' r)) : Pure P f args r := by
  intro w M σ L vs hM hvl
  have hmu : ∀ (σ' : Nat → Gh) b o, MU M σ' (fun _ => none) b o ↔ M b o := fun σ' b o => by
    refine ⟨fun h => ?_, fun h => .inl h⟩
    rcases h with h | ⟨id, l, h1, _⟩ | ⟨id, e, sz, els, h1, _⟩
    · exact h
    · cases h1
    · cases h1
  have h0 : HR w M σ (fun _ => none) := ⟨hM, fun id h => absurd rfl h, fun i j h => absurd rfl h, fun id l h => (by cases h), fun id e sz els h => (by cases h)⟩
  refine (h w M σ vs h0 (fun _ _ => rfl) ⟨hvl.1, fun i v p hv hp => (hvl.2 i v p hv hp).bd (fun b o u _ h1 h2 => h1 ((hmu σ b o).1 h2)) (fun _ h => h.elim) (ha p (q4h hp))⟩).mono ?_
  rintro e w' ⟨out, H', m', σ', ⟨r', rfl, hz⟩, hr', hfree, _, hf, ho⟩
  cases e with
  | returned v =>
    refine ⟨v, rfl, ?_, ⟨hf.os, hf.tape, hf.output, hf.size, fun b hb => hf.block b hb (fun id h => absurd rfl h)⟩⟩
    exact fz_sound hr' (fun b o u _ h1 h2 => h1 (.inl h2)) (fun id hid o => hr'.sep id hid o) ho hz
  | panicked ch => exact ho.elim
  | outgrown => exact ho.elim
theorem pureF {P : Program} {f : FuncId} {fn : Func} {c : Code} {args : List PV} {r : PV} {rs : List ResultVar} (hm : P.follows .mixedOrders = true) (ha : BdL (fun _ => False) args) (hf : P.funcs[f]? = some fn) (hrs : fn.results = rs.toArray) (hb : fn.body = some c) (hn : args.length ≤ fn.ntmps)
    (hd : dstOk fn.ntmps c = true) (h : q0g P 0 c (retQ P rs (fun out H' _ => ∃ r', out = .ret r' ∧ Fz H' r' r)) (q5k args) (fun _ => none) 0) : Pure P f args r := pure_frz ha (CSat_of_pw hm hf hb hn hd (by rw [hrs]; simpa using h))
/-- The common ends. -/
theorem fz_same {H : Heap} {r : PV} (h : Bd (fun _ => False) r) : ∃ r', Out.ret r = .ret r' ∧ Fz H r' r := ⟨r, rfl, .same r h⟩
theorem fz_bs {H : Heap} {id n e0 z0 : Nat} {l : List PV} {els : List (List PV)} (sz : Nat) (hid : H id = some (.box l)) (hn : els.length = n) (hs : ∀ e ∈ els, e.length = sz) (hl : els.flatten = l) (hb : Bd (fun _ => False) (.sl els)) : Fz H (.bs id n e0 z0) (.sl els) := by
  have hfl : els.flatten.length = n * sz := by rw [q2r hs, hn]
  refine .bs id n e0 z0 l els sz hid hn hs (by rw [← hl, ← hfl, List.take_length]) (fun p hp => ?_)
  obtain ⟨e, he, hpe⟩ := List.mem_flatten.1 hp
  cases hb with
  | sl _ hb => exact hb e he p hpe
theorem fz_splice {H : Heap} {l : List PV} {off : Nat} {x y : PV} (hl : BdL (fun _ => False) l) (h : Fz H x y) : Fz H (.agg (splice l off [x])) (.agg (splice l off [y])) := by
  refine .agg _ _ (by simp [splice]) (fun i p q hp hq => ?_)
  unfold splice at hp hq
  simp only [List.append_assoc, List.length_cons, List.length_nil] at hp hq
  by_cases h1 : i < (l.take off).length
  · rw [List.getElem?_append_left h1] at hp hq
    rw [hp] at hq; cases hq
    exact .same p (hl p (List.mem_of_mem_take (q4h hp)))
  · rw [List.getElem?_append_right (by omega)] at hp hq
    generalize i - (l.take off).length = k at hp hq
    cases k with
    | zero => simp at hp hq; subst hp; subst hq; exact h
    | succ k =>
      simp only [List.cons_append, List.nil_append, List.getElem?_cons_succ] at hp hq
      rw [hp] at hq; cases hq
      exact .same p (hl p (List.mem_of_mem_drop (q4h hp)))
theorem fz_tup2 {H : Heap} {a b c d : PV} (h : Fz H a c) (k : Fz H b d) : Fz H (.tup [a, b]) (.tup [c, d]) := by
  refine .tup _ _ rfl (fun i p q hp hq => ?_)
  match i, hp, hq with
  | 0, hp, hq => simp at hp hq; subst hp; subst hq; exact h
  | 1, hp, hq => simp at hp hq; subst hp; subst hq; exact k
end Go.Proofs.YteibeoipnjhicaaGreat
