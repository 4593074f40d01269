import Derived.Test.YtggkjfllbfcagaaTp
import Derived.Test.YtggkjfllbfcagaaLabRs
namespace Go.Proofs.Ytggkjfllbfcagaa
open Go Go.RowKit Go.Proofs.YtggkjfllbfcagaaW.PrintWords Go.Proofs.YtggkjfllbfcagaaW.PrintLast Go.Proofs.YtggkjfllbfcagaaW.PrintMore
set_option linter.unusedVariables false
set_option linter.unusedSimpArgs false
/-! Hand contracts about labels, as pure ones. -/
def labOf (l : List Pr) : Lab := l.map fun p => (p.cat, p.lev)
def ofPair (x : Int × Int) : Pr := ⟨x.1, x.2⟩
theorem labOf_len (l : List Pr) : (labOf l).length = l.length := by simp [labOf]
theorem of_labOf (l : List Pr) : (labOf l).map ofPair = l := by simp [labOf, ofPair, List.map_map, Function.comp_def]
theorem flat_put {α : Type} {f : α → List PV} {sz : Nat} (hsz : ∀ y, (f y).length = sz) : ∀ (l : List α) (j i : Nat) (y : α) (p : PV), l[j]? = some y → (f y)[i]? = some p → (l.map f).flatten[j * sz + i]? = some p := by
  intro l
  induction l with
  | nil => intro j i y p h; simp at h
  | cons a l ih =>
    intro j i y p h k
    rw [List.map_cons, List.flatten_cons]
    cases j with
    | zero =>
      simp at h; subst h
      rw [Nat.zero_mul, Nat.zero_add, List.getElem?_append_left (by exact len_lt k)]; exact k
    | succ j =>
      rw [List.getElem?_append_right (by rw [hsz, Nat.add_mul, Nat.one_mul]; omega), hsz]
      rw [show (j + 1) * sz + i - sz = j * sz + i by rw [Nat.add_mul, Nat.one_mul]; omega]
      exact ih j i y p (by simpa using h) k
theorem add_none (b o q : Nat) : (⟨b, o, none⟩ : Addr).add q = ⟨b, o + q, none⟩ := by unfold Addr.add; split <;> simp_all
theorem c_of_vr {w : World} {M σ L} {v : Value} {l : List Pr} (h : VR w M σ L v (.sl (l.map Pr.enc))) (hl : l.length ≤ 1000000) : ∃ A c, v = .slice A (labOf l).length c ∧ kPr.C w A (labOf l).length (labOf l) ∧ (labOf l).length ≤ c := by
  rw [labOf_len]
  generalize hels : l.map Pr.enc = els0 at h
  cases h with
  | sl0 A cap =>
    have : l = [] := by simpa using hels
    subst this
    exact ⟨A, cap, rfl, ⟨rfl, by simp, fun h => absurd h (by simp)⟩, Nat.zero_le _⟩
  | sl b o sz cap els hc hs f hcell h =>
    subst hels
    refine ⟨some ⟨b, o, none⟩, cap, by simp, ⟨labOf_len l, by omega, fun _ => ⟨_, rfl, fun j p hj => ?_⟩⟩, by simpa using hc⟩
    unfold labOf at hj
    rw [List.getElem?_map] at hj
    obtain ⟨x, hx, rfl⟩ := Option.map_eq_some_iff.1 hj
    refine ⟨[.int .u64 x.cat, .int .i64 x.lev], rfl, ⟨[_], [_], rfl, rfl, rfl⟩, fun i u hu => ?_⟩
    have key : ∀ i p, (Pr.enc x)[i]? = some p → w.cell? ⟨b, o + (j * 2 + i), none⟩ = some (f (j * 2 + i)) ∧ VR w M σ L (f (j * 2 + i)) p := fun i p hip => by
      have := flat_put Pr.len l j i x p hx hip
      exact ⟨(hcell _ _ this).1, h _ _ this⟩
    have hk : kPr.sz = 2 := rfl
    rw [hk, add_none]
    match i, hu with
    | 0, hu =>
      simp at hu; subst hu
      obtain ⟨k1, k2⟩ := key 0 _ rfl
      rw [k1]; generalize f (j * 2 + 0) = u at k2; cases k2; rfl
    | 1, hu =>
      simp at hu; subst hu
      obtain ⟨k1, k2⟩ := key 1 _ rfl
      rw [k1]; generalize f (j * 2 + 1) = u at k2; cases k2; rfl
theorem vr_of_R {w : World} {M σ L} {e base : Nat} {ok : Nat → Prop} {v : Value} {l : List Pr} (hM : ∀ b o, M b o → b < base) (h : Kd.R kPr e w base ok v (labOf l)) : VR w M σ L v (.sl (l.map Pr.enc)) := by
  obtain ⟨_, inner, ⟨hlen, ho⟩, hr⟩ := h
  rw [labOf_len] at ho hlen
  rcases ho with ⟨rfl, h0⟩ | ⟨g, cap, cur, rfl, hb, hg, hn, hm, hs, ht⟩
  · have : l = [] := List.eq_nil_of_length_eq_zero h0
    subst this; exact .sl0 none 0
  · rcases Nat.eq_zero_or_pos l.length with h0 | hpos
    · have : l = [] := List.eq_nil_of_length_eq_zero h0
      subst this; exact .sl0 _ _
    · have hk : kPr.sz = 2 := rfl
      rw [hk] at hlen hs ht
      have each : ∀ q p, (l.map Pr.enc).flatten[q]? = some p → ∃ v, w.cell? ⟨g, 0 + q, none⟩ = some v ∧ v.oneCell' = true ∧ VR w M σ L v p := by
        intro q p hq
        obtain ⟨x, hx, hp⟩ := flat_get Pr.len (by decide) l q p hq
        have hj : (labOf l)[q / 2]? = some (x.cat, x.lev) := by unfold labOf; rw [List.getElem?_map, hx]; rfl
        have hc := hr.2 (q / 2) _ hj
        rw [hk] at hc
        obtain ⟨c0, c1, he, h1, h2⟩ := kPr.K_of_M hc
        have h1' : c0 = [.int .u64 x.cat] := h1
        have h2' : c1 = [.int .i64 x.lev] := h2
        subst h1' h2'
        have hq2 : q % 2 < 2 := Nat.mod_lt _ (by decide)
        have hcell : ∀ u, ([.int .u64 x.cat, .int .i64 x.lev] : List Value)[q % 2]? = some u → w.cell? ⟨g, 0 + q, none⟩ = some u := by
          intro u hu
          rw [cell_of_row w g _ cur e (0, 0) hg, Nat.zero_add]
          have e1 : ((inner.drop (q / 2 * 2)).take 2)[q % 2]? = some u := by rw [he]; exact hu
          rw [List.getElem?_take_of_lt hq2, List.getElem?_drop, Nat.div_add_mod' q 2, ← ht] at e1
          have hlt : q < l.length * 2 := by
            have := len_lt hx
            omega
          rw [List.getElem?_take_of_lt hlt] at e1
          simpa using e1
        have hpx : Pr.enc x = [.int .u64 x.cat, .int .i64 x.lev] := rfl
        rw [hpx] at hp
        generalize q % 2 = r at hp hcell hq2
        match r, hp with
        | 0, hp => simp at hp; subst hp; exact ⟨_, hcell _ rfl, rfl, .int _ _⟩
        | 1, hp => simp at hp; subst hp; exact ⟨_, hcell _ rfl, rfl, .int _ _⟩
      have := VR.sl (w := w) (M := M) (σ := σ) (L := L) g 0 2 cap (l.map Pr.enc) (by simpa using hn) (fun e he => by obtain ⟨y, _, rfl⟩ := List.mem_map.1 he; rfl) (fun q => (w.cell? ⟨g, 0 + q, none⟩).getD (.bool false))
        (fun q p hq => by obtain ⟨v, k1, k2, k3⟩ := each q p hq; rw [k1]; exact ⟨rfl, fun hm => absurd (hM _ _ hm) (by omega), k2⟩) (fun q p hq => by obtain ⟨v, k1, k2, k3⟩ := each q p hq; rw [k1]; exact k3)
      simpa using this
theorem vl2 {w : World} {M σ L} {vs : List Value} {p q : PV} (h : VL w M σ L vs [p, q]) : ∃ v u, vs = [v, u] ∧ VR w M σ L v p ∧ VR w M σ L u q := by
  obtain ⟨h1, h2⟩ := h
  match vs, h1 with
  | [v, u], _ => exact ⟨v, u, rfl, h2 0 v p rfl rfl, h2 1 u q rfl rfl⟩
theorem vl1 {w : World} {M σ L} {vs : List Value} {p : PV} (h : VL w M σ L vs [p]) : ∃ v, vs = [v] ∧ VR w M σ L v p := by
  obtain ⟨h1, h2⟩ := h
  match vs, h1 with
  | [v], _ => exact ⟨v, rfl, h2 0 v p rfl rfl⟩
def labLeq (a b : List Pr) : Bool := leqB (labOf a) (labOf b)
theorem label_leq (a b : List Pr) (hl : a.length + b.length ≤ 1000000) : Pure Try.prog 130 [.sl (a.map Pr.enc), .sl (b.map Pr.enc)] (.bool (labLeq a b)) := by
  intro w M σ L vs hM hvl
  obtain ⟨v, u, rfl, h1, h2⟩ := vl2 hvl
  obtain ⟨A, c, rfl, hC, hc⟩ := c_of_vr h1 (by omega)
  obtain ⟨B, d, rfl, hD, hd⟩ := c_of_vr h2 (by omega)
  refine (leq_calls (labOf a) (labOf b) A B c d w hC hD hc hd (by rw [labOf_len, labOf_len]; exact hl)).mono ?_
  rintro e w' ⟨rfl, hb⟩
  exact ⟨_, rfl, .bool _, hb⟩
def labRaise (l : List Pr) : List Pr := (foldB (fun a _ => raL a) (labOf l) []).map ofPair
theorem label_raise (l : List Pr) (hl : l.length ≤ 1000000) : Pure Try.prog 114 [.sl (l.map Pr.enc)] (.sl ((labRaise l).map Pr.enc)) := by
  intro w M σ L vs hM hvl
  obtain ⟨v, rfl, h1⟩ := vl1 hvl
  obtain ⟨A, c, rfl, hC, hc⟩ := c_of_vr h1 hl
  refine (raise_calls (labOf l) A c w hC hc (by rw [labOf_len]; exact hl)).mono ?_
  rintro e w' ⟨v, rfl, hr, hb⟩
  have e1 : labOf (labRaise l) = foldB (fun a _ => raL a) (labOf l) [] := by simp [labRaise, labOf, ofPair, List.map_map, Function.comp_def]
  rw [← e1] at hr
  exact ⟨v, rfl, vr_of_R hM hr, hb⟩
end Go.Proofs.Ytggkjfllbfcagaa
