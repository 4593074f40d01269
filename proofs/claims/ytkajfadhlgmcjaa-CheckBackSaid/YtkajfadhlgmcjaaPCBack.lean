import Derived.Test.YtkajfadhlgmcjaaPCLaw
import Derived.Test.YtkajfadhlgmcjaaPCx12
import Derived.Test.YtkajfadhlgmcjaaPCx12
import Derived.Test.YtkajfadhlgmcjaaPCx16
import Derived.Test.YtkajfadhlgmcjaaPCx12
import Derived.Test.YtkajfadhlgmcjaaPCx14
import Derived.Test.YtkajfadhlgmcjaaPCx6
import Derived.Test.YtkajfadhlgmcjaaPCx17
namespace Go.Proofs.Ytkajfadhlgmcjaa.PC
open Go Go.RowKit Go.Proofs.Ytkajfadhlgmcjaa Go.Proofs.YtkajfadhlgmcjaaW.PrintWords Go.Proofs.YtkajfadhlgmcjaaW.PrintLast Go.Proofs.YtkajfadhlgmcjaaW.PrintMore
set_option linter.unusedVariables false
set_option linter.unusedSimpArgs false
def becB (t c n : Lab) : Bool := plainB n && (leqB t n && leqB n c)
def spaB (t c n m : Lab) : Bool := plainB n && (plainB m && (leqB t n && (leqB n m && leqB m c)))
theorem becB_iff {t c n : Lab} : becB t c n = true ↔ plainB n = true ∧ leqB t n = true ∧ leqB n c = true := by unfold becB; simp only [Bool.and_eq_true]
theorem spaB_iff {t c n m : Lab} : spaB t c n m = true ↔ plainB n = true ∧ plainB m = true ∧ leqB t n = true ∧ leqB n m = true ∧ leqB m c = true := by unfold spaB; simp only [Bool.and_eq_true]
theorem become_f (t c n : Lab) (ht : t.length ≤ 1000) (hc : c.length ≤ 1000) (hn : n.length ≤ 1000) : check_Become.f (ofLab t) (ofLab c) (ofLab n) = some (becB t c n) := by
  unfold check_Become.f becB; simp only [ofLab_len, toL_ofLab]; rw [if_pos ⟨ht, hc, hn⟩]
theorem spawn_f (t c n m : Lab) (ht : t.length ≤ 1000) (hc : c.length ≤ 1000) (hn : n.length ≤ 1000) (hm : m.length ≤ 1000) : check_Spawn.f (ofLab t) (ofLab c) (ofLab n) (ofLab m) = some (spaB t c n m) := by
  unfold check_Spawn.f spaB; simp only [ofLab_len, toL_ofLab]; rw [if_pos ⟨ht, hc, hn, hm⟩]
def aboveB (l : Lab) : Bool := l.any (fun p => p.2 == 5)
theorem plain_above (l : Lab) : plainB l = !aboveB l := by
  unfold plainB aboveB
  rw [List.not_any_eq_all_not]
  rfl
theorem above_loop (l : Lab) (hlen : l.length ≤ 1000) : ∀ (d k i : Nat), i + d = l.length → d < k → curtilagelaw03_above.l0 k (ofLab l) (l.length : Int) (i : Int) = some (aboveB (l.drop i)) := by
  intro d
  induction d with
  | zero =>
    intro k i hi hk
    obtain ⟨k, rfl⟩ : ∃ m, k = m + 1 := ⟨k - 1, by omega⟩
    simp only [curtilagelaw03_above.l0, ofLab_len]
    rw [if_neg (by omega), List.drop_of_length_le (by omega)]
    rfl
  | succ d ih =>
    intro k i hi hk
    obtain ⟨k, rfl⟩ : ∃ m, k = m + 1 := ⟨k - 1, by omega⟩
    have hil : i < l.length := by omega
    have ih' := ih k (i + 1) (by omega) (by omega)
    have hw := w64s i (by omega)
    simp only [curtilagelaw03_above.l0, ofLab_len]
    rw [if_pos (by omega), if_pos (by omega), if_pos (by omega), rd_ofLab l i hil, hw, ih', List.drop_eq_getElem_cons hil]
    have e : aboveB (l[i] :: l.drop (i + 1)) = (l[i].2 == 5 || aboveB (l.drop (i + 1))) := rfl
    rw [e]
    by_cases h1 : l[i].2 = 5
    · rw [if_pos h1, beq_iff_eq.2 h1]; rfl
    · rw [if_neg h1, beq_eq_false_iff_ne.2 h1, Bool.false_or]
theorem above_f (l : Lab) (hlen : l.length ≤ 1000) (k : Nat) (hk : 1000 < k) : curtilagelaw03_above.f k (ofLab l) = some (aboveB l) := by
  have := above_loop l hlen l.length k 0 (by omega) (by omega)
  unfold curtilagelaw03_above.f
  rw [ofLab_len]
  exact this
theorem rowned_loop (l : Lab) (hlen : l.length ≤ 1000) : ∀ (d k i : Nat) (out : List Int), i + d = l.length → d < k → out.length ≤ i → curtilageref02_Owned.l0 k (ofLab l) out (i : Int) = some (out ++ ownedB (l.drop i)) := by
  intro d
  induction d with
  | zero =>
    intro k i out hi hk ho
    obtain ⟨k, rfl⟩ : ∃ m, k = m + 1 := ⟨k - 1, by omega⟩
    simp only [curtilageref02_Owned.l0, ofLab_len]
    rw [if_neg (by omega), List.drop_of_length_le (by omega)]
    simp [ownedB]
  | succ d ih =>
    intro k i out hi hk ho
    obtain ⟨k, rfl⟩ : ∃ m, k = m + 1 := ⟨k - 1, by omega⟩
    have hil : i < l.length := by omega
    have hw := w64s i (by omega)
    simp only [curtilageref02_Owned.l0, ofLab_len]
    rw [if_pos (by omega), if_pos (by omega), rd_ofLab l i hil, hw, List.drop_eq_getElem_cons hil]
    by_cases h1 : l[i].2 = 0
    · rw [if_pos h1, if_pos (by omega), ih k (i + 1) _ (by omega) (by omega) (by simp; omega)]
      rw [ownedB_cons, if_pos h1, List.append_assoc]; rfl
    · rw [if_neg h1, ih k (i + 1) _ (by omega) (by omega) (by omega), ownedB_cons, if_neg h1]
theorem rowned_f (l : Lab) (hlen : l.length ≤ 1000) (k : Nat) (hk : 1000 < k) : curtilageref02_Owned.f k (ofLab l) = some (ownedB l) := by
  have := rowned_loop l hlen l.length k 0 [] (by omega) (by omega) (by simp)
  rw [List.drop_zero, List.nil_append] at this
  exact this
theorem ownedB_mem {l : Lab} (h : FitL l) {x : Int} : x ∈ ownedB l ↔ getL l x = 0 := by
  unfold ownedB
  simp only [List.mem_map, List.mem_filter, beq_iff_eq]
  constructor
  · rintro ⟨p, ⟨hp, h0⟩, rfl⟩
    rw [getL_mem h.sorted hp]; exact h0
  · intro h0
    rcases getL_or h.sorted x with ⟨p, hp, rfl, he⟩ | ⟨_, he⟩
    · exact ⟨p, ⟨hp, by rw [← he]; exact h0⟩, rfl⟩
    · rw [he] at h0; exact absurd h0 (by decide)
def ownsB (a b : Lab) (l : List Int) : Bool := l.all (fun c => decide (getL a c = 0) || (!decide (b = []) && decide (getL b c = 0)))
theorem rd_int (l : List Int) (i : Nat) (h : i < l.length) : rd l (i : Int) = l[i] := by unfold rd; simp [h]
theorem owns_loop (a b : Lab) (l : List Int) (ha : a.length ≤ 1000) (hb : b.length ≤ 1000) (hl : l.length ≤ 5000) : ∀ (d k i : Nat), i + d = l.length → d + 1001 < k → curtilagelaw03_owns.l0 k (ofLab a) (ofLab b) l (l.length : Int) (i : Int) = some (ownsB a b (l.drop i)) := by
  intro d
  induction d with
  | zero =>
    intro k i hi hk
    obtain ⟨k, rfl⟩ : ∃ m, k = m + 1 := ⟨k - 1, by omega⟩
    simp only [curtilagelaw03_owns.l0]
    rw [if_neg (by omega), List.drop_of_length_le (by omega)]
    rfl
  | succ d ih =>
    intro k i hi hk
    obtain ⟨k, rfl⟩ : ∃ m, k = m + 1 := ⟨k - 1, by omega⟩
    have hil : i < l.length := by omega
    have hx1 : (i : Int) < (l.length : Int) := Int.ofNat_lt.2 hil
    have hx0 : (0 : Int) ≤ (i : Int) := Int.natCast_nonneg i
    have ih' := ih k (i + 1) (by omega) (by omega)
    have hw := w64s i (by omega)
    have e : ownsB a b (l[i] :: l.drop (i + 1)) = ((decide (getL a l[i] = 0) || (!decide (b = []) && decide (getL b l[i] = 0))) && ownsB a b (l.drop (i + 1))) := rfl
    have g1 := rget_f a l[i] ha k (by omega)
    have g2 := rget_f b l[i] hb k (by omega)
    unfold curtilagelaw03_owns.l0
    rw [if_pos hx1, if_pos hx0, if_pos hx1, rd_int l i hil, g1, Option.bind_some, hw, ih', List.drop_eq_getElem_cons hil, e, g2, Option.bind_some, ofLab_len]
    by_cases h1 : getL a l[i] = 0
    · rw [if_pos h1, decide_eq_true h1]; rfl
    · rw [if_neg h1, decide_eq_false h1, Bool.false_or]
      by_cases h2 : b = []
      · rw [if_pos ((len0' b).2 h2), decide_eq_true h2]; rfl
      · rw [if_neg (fun hh => h2 ((len0' b).1 hh)), decide_eq_false h2]
        by_cases h3 : getL b l[i] = 0
        · rw [if_pos h3, decide_eq_true h3]; rfl
        · rw [if_neg h3, decide_eq_false h3]; rfl
theorem owns_f (a b : Lab) (l : List Int) (ha : a.length ≤ 1000) (hb : b.length ≤ 1000) (hl : l.length ≤ 5000) (k : Nat) (hk : 6100 < k) : curtilagelaw03_owns.f k (ofLab a) (ofLab b) l = some (ownsB a b l) := by
  have := owns_loop a b l ha hb hl l.length k 0 (by omega) (by omega)
  unfold curtilagelaw03_owns.f
  exact this
theorem ownsB_iff (a b : Lab) (l : List Int) : ownsB a b l = true ↔ ∀ c ∈ l, getL a c = 0 ∨ getL b c = 0 := by
  unfold ownsB
  rw [List.all_eq_true]
  constructor
  · intro h c hc
    have := h c hc
    rw [Bool.or_eq_true, Bool.and_eq_true, decide_eq_true_eq, decide_eq_true_eq] at this
    exact this.imp id (fun h => h.2)
  · intro h c hc
    rw [Bool.or_eq_true, Bool.and_eq_true, decide_eq_true_eq, decide_eq_true_eq]
    refine (h c hc).imp id (fun h2 => ⟨?_, h2⟩)
    by_cases hb : b = []
    · subst hb; rw [getL_nil] at h2; exact absurd h2 (by decide)
    · rw [decide_eq_false hb]; rfl
def entB (t c g k n m : Lab) : Bool := plainB n && (plainB m && (leqB t k && (leqB (lowerB (joinB (raiseB t) (raiseB g))) n && (leqB n m && leqB m (joinB c k)))))
theorem entB_iff {t c g k n m : Lab} : entB t c g k n m = true ↔ plainB n = true ∧ plainB m = true ∧ leqB t k = true ∧ leqB (lowerB (joinB (raiseB t) (raiseB g))) n = true ∧ leqB n m = true ∧ leqB m (joinB c k) = true := by unfold entB; simp only [Bool.and_eq_true]
theorem enter_f (t c g k n m : Lab) (h0 : t.length ≤ 1000) (h1 : c.length ≤ 1000) (h2 : g.length ≤ 1000) (h3 : k.length ≤ 1000) (h4 : n.length ≤ 1000) (h5 : m.length ≤ 1000) : check_Enter.f (ofLab t) (ofLab c) (ofLab g) (ofLab k) (ofLab n) (ofLab m) = some (entB t c g k n m) := by
  unfold check_Enter.f entB; simp only [ofLab_len, toL_ofLab]; rw [if_pos ⟨h0, h1, h2, h3, h4, h5⟩]
theorem ownedB_len (l : Lab) : (ownedB l).length ≤ l.length := by unfold ownedB; rw [List.length_map]; exact List.length_filter_le _ _
theorem above_get {a : Lab} (fa : FitL a) (h : aboveB a = false) (x : Int) : getL a x ≠ 5 := by
  intro h5
  rcases getL_or fa.sorted x with ⟨p, hp, rfl, he⟩ | ⟨_, he⟩
  · have : aboveB a = true := by unfold aboveB; rw [List.any_eq_true]; exact ⟨p, hp, by rw [beq_iff_eq, ← he, h5]⟩
    rw [this] at h; cases h
  · rw [he] at h5; omega
set_option maxRecDepth 100000 in
theorem checkBack_pure (l0 l1 l2 l3 l4 l5 l6 : List S46) : ∃ k, curtilagelaw03_CheckBack.f k l0 l1 l2 l3 l4 l5 l6 = some true := by
  obtain ⟨t, rfl⟩ : ∃ a, l0 = ofLab a := ⟨toL l0, (ofLab_toL l0).symm⟩
  obtain ⟨c, rfl⟩ : ∃ a, l1 = ofLab a := ⟨toL l1, (ofLab_toL l1).symm⟩
  obtain ⟨n, rfl⟩ : ∃ a, l2 = ofLab a := ⟨toL l2, (ofLab_toL l2).symm⟩
  obtain ⟨m, rfl⟩ : ∃ a, l3 = ofLab a := ⟨toL l3, (ofLab_toL l3).symm⟩
  obtain ⟨g, rfl⟩ : ∃ a, l4 = ofLab a := ⟨toL l4, (ofLab_toL l4).symm⟩
  obtain ⟨k, rfl⟩ : ∃ a, l5 = ofLab a := ⟨toL l5, (ofLab_toL l5).symm⟩
  obtain ⟨v, rfl⟩ : ∃ a, l6 = ofLab a := ⟨toL l6, (ofLab_toL l6).symm⟩
  refine ⟨10000, ?_⟩
  unfold curtilagelaw03_CheckBack.f
  have hfit := fit3_f [t, c, n, m, g, k, v] (by simp) 10000 (by omega)
  simp only [List.map_cons, List.map_nil] at hfit
  rw [hfit, Option.bind_some]
  by_cases hf : fit3B [t, c, n, m, g, k, v] = true
  · rw [if_pos hf]
    have hall := fit3_all hf
    obtain ⟨nt, ft⟩ := hall t (by simp)
    have ntr := raiseB_len t
    obtain ⟨nc, fc⟩ := hall c (by simp)
    have ncr := raiseB_len c
    obtain ⟨nn, fn⟩ := hall n (by simp)
    have nnr := raiseB_len n
    obtain ⟨nm, fm⟩ := hall m (by simp)
    have nmr := raiseB_len m
    obtain ⟨ng, fg⟩ := hall g (by simp)
    have ngr := raiseB_len g
    obtain ⟨nk, fk⟩ := hall k (by simp)
    have nkr := raiseB_len k
    obtain ⟨nv, fv⟩ := hall v (by simp)
    have nvr := raiseB_len v
    clear hall hfit hf
    have nh := @hidesB_len t v
    have nh2 := @hidesB_len n v
    have no := ownedB_len n
    have en : ([] : List S46) = ofLab [] := rfl
    have hj1 : curtilagelaw03_CheckBack.j0 10000 (ofLab t) (ofLab c) (ofLab n) (ofLab m) (ofLab g) (ofLab k) (ofLab v) true = some true := by
      simp only [curtilagelaw03_CheckBack.j0, awake_f, Option.bind_some, if_true]
    rw [above_f t (by omega) 10000 (by omega), Option.bind_some]
    cases at_ : aboveB t with
    | true => rw [if_pos rfl]; exact hj1
    | false =>
      rw [if_neg (by decide), above_f g (by omega) 10000 (by omega), Option.bind_some]
      cases ag : aboveB g with
      | true => exact hj1
      | false =>
        have pt := above_get ft at_
        have pg := above_get fg ag
        have low : ∀ x, getL t x ≠ 0 → getL g x ≠ 0 → leqB (lowerB (joinB (raiseB t) (raiseB g))) n = true → getL t x ≤ getL n x ∧ getL g x ≤ getL n x := fun x h1 h2 h3 => by
          have := (leqB_iff (lower_fit (join_fit (raise_fit ft) (raise_fit fg))) fn).1 h3 x
          have p1 := pt x
          have p2 := pg x
          have r1 := getL_range ft x
          have r2 := getL_range fg x
          rw [lower_get (join_fit (raise_fit ft) (raise_fit fg)), join_get (raise_fit ft) (raise_fit fg), raise_getz ft, raise_getz fg] at this
          unfold rz at this
          rw [if_neg h1, if_neg h2, if_neg (by omega)] at this
          omega
        have own1 : leqB t n = true → hidesB n v = [] → ownsB t [] (hidesB t v) = true := fun h1 h2 => by
          rw [ownsB_iff]
          intro x hx
          rw [hidesB_mem ft fv] at hx
          have a1 := (leqB_iff ft fn).1 h1 x
          have a2 := (leqB_iff (raise_fit fn) fv).1 ((hidesB_nil fn fv).1 h2) x
          rw [raise_getz fn] at a2
          have r1 := getL_range ft x
          left
          by_cases h0 : getL t x = 0
          · exact h0
          · unfold rz at hx a2; rw [if_neg h0] at hx; split at a2 <;> omega
        have own2 : leqB (lowerB (joinB (raiseB t) (raiseB g))) n = true → hidesB n v = [] → ownsB t g (hidesB t v) = true := fun h1 h2 => by
          rw [ownsB_iff]
          intro x hx
          rw [hidesB_mem ft fv] at hx
          have a2 := (leqB_iff (raise_fit fn) fv).1 ((hidesB_nil fn fv).1 h2) x
          rw [raise_getz fn] at a2
          have r1 := getL_range ft x
          by_cases h0 : getL t x = 0
          · exact .inl h0
          · by_cases h3 : getL g x = 0
            · exact .inr h3
            · have := low x h0 h3 h1
              unfold rz at hx a2; rw [if_neg h0] at hx; split at a2 <;> omega
        have b1 := become_f t c n (by omega) (by omega) (by omega)
        have s1 := spawn_f t c n m (by omega) (by omega) (by omega) (by omega)
        have e1 := enter_f t c g k n m (by omega) (by omega) (by omega) (by omega) (by omega) (by omega)
        have hback : (((hidesB n v).length : Int) == 0) = decide (hidesB n v = []) := len0 _
        have hloop : ∀ (d q i : Nat), i + d = (ownedB n).length → d + 1001 < q → curtilagelaw03_CheckBack.l0 q (ofLab t) (ofLab c) (ofLab n) (ofLab m) (ofLab g) (ofLab k) (ownedB n) ((ownedB n).length : Int) (i : Int) = some true := by
          intro d
          induction d with
          | zero =>
            intro q i hi hq
            obtain ⟨q, rfl⟩ : ∃ m, q = m + 1 := ⟨q - 1, by omega⟩
            simp only [curtilagelaw03_CheckBack.l0]
            rw [if_neg (by omega), awake_f]; rfl
          | succ d ih =>
            intro q i hi hq
            obtain ⟨q, rfl⟩ : ∃ m, q = m + 1 := ⟨q - 1, by omega⟩
            have hil : i < (ownedB n).length := by omega
            have hx1 : (i : Int) < ((ownedB n).length : Int) := Int.ofNat_lt.2 hil
            have hx0 : (0 : Int) ≤ (i : Int) := Int.natCast_nonneg i
            have ih' := ih q (i + 1) (by omega) (by omega)
            have hw := w64s i (by omega)
            obtain ⟨x, hx⟩ : ∃ x, x = (ownedB n)[i] := ⟨_, rfl⟩
            have hxn : getL n x = 0 := (ownedB_mem fn).1 (by rw [hx]; exact List.getElem_mem hil)
            have g1 := rget_f t x (by omega) q (by omega)
            have g2 := rget_f g x (by omega) q (by omega)
            have y1 : becB t c n = true → getL t x = 0 := fun h => by
              rw [becB_iff] at h
              have := (leqB_iff ft fn).1 h.2.1 x
              have := getL_range ft x
              omega
            have y2 : entB t c g k n m = true → getL t x ≠ 0 → getL g x = 0 := fun h h0 => by
              rw [entB_iff] at h
              by_cases h3 : getL g x = 0
              · exact h3
              · have := low x h0 h3 h.2.2.2.1
                have := getL_range ft x
                omega
            unfold curtilagelaw03_CheckBack.l0
            rw [if_pos hx1, if_pos hx0, if_pos hx1, b1, Option.bind_some, rd_int _ i hil, ← hx, hw, ih', e1]
            simp only [g1, g2, Option.bind_some]
            have tail : (if entB t c g k n m = true then (if getL t x = 0 then some true else if getL g x = 0 then some true else some false) else some true) = some true := by
              cases ee : entB t c g k n m with
              | false => simp
              | true =>
                rw [if_pos rfl]
                by_cases h0 : getL t x = 0
                · rw [if_pos h0]
                · rw [if_neg h0, if_pos (y2 ee h0)]
            cases eb : becB t c n with
            | true =>
              rw [if_pos rfl, if_pos (y1 eb)]
              exact tail
            | false => rw [if_neg (by decide)]; exact tail
        have h3 : curtilagelaw03_CheckBack.j3 9997 (ofLab t) (ofLab c) (ofLab n) (ofLab m) (ofLab g) (ofLab k) false = some true := by
          have := hloop (ownedB n).length 9996 0 (by omega) (by omega)
          simp only [curtilagelaw03_CheckBack.j3, rowned_f n (by omega) 9996 (by omega), Option.bind_some]
          exact this
        have h2 : curtilagelaw03_CheckBack.j2 9998 (ofLab t) (ofLab c) (ofLab n) (ofLab m) (ofLab g) (ofLab k) (hidesB t v) (decide (hidesB n v = [])) false = some true := by
          simp only [curtilagelaw03_CheckBack.j2, s1, en, owns_f t [] (hidesB t v) (by omega) (by simp) (by omega) 9997 (by omega), rleq_f fm fc (by omega) (by omega) 9997 (by omega), Option.bind_some]
          cases es : spaB t c n m with
          | false => simpa using h3
          | true =>
            rw [spaB_iff] at es
            rw [es.2.2.2.2]
            by_cases hb : hidesB n v = []
            · rw [own1 es.2.2.1 hb]; simpa [hb] using h3
            · simpa [hb] using h3
        have h1 : curtilagelaw03_CheckBack.j1 9999 (ofLab t) (ofLab c) (ofLab n) (ofLab m) (ofLab g) (ofLab k) (hidesB t v) (decide (hidesB n v = [])) false = some true := by
          simp only [curtilagelaw03_CheckBack.j1, e1, owns_f t g (hidesB t v) (by omega) (by omega) (by omega) 9998 (by omega), Option.bind_some]
          cases ee : entB t c g k n m with
          | false => simpa using h2
          | true =>
            rw [entB_iff] at ee
            by_cases hb : hidesB n v = []
            · rw [own2 ee.2.2.2.1 hb]; simpa [hb] using h2
            · simpa [hb] using h2
        simp only [curtilagelaw03_CheckBack.j0, hides_f ft fv (by omega) (by omega), hides_f fn fv (by omega) (by omega), b1, en, owns_f t [] (hidesB t v) (by omega) (by simp) (by omega) 9999 (by omega), rleq_f fn fc (by omega) (by omega) 9999 (by omega), Option.bind_some, hback]
        cases eb : becB t c n with
        | false => simpa using h1
        | true =>
          rw [becB_iff] at eb
          rw [eb.2.2]
          by_cases hb : hidesB n v = []
          · rw [own1 eb.2.1 hb]; simpa [hb, len0'] using h1
          · simpa [hb, len0'] using h1
  · rw [if_neg hf]
    simp only [curtilagelaw03_CheckBack.j0, awake_f, Option.bind_some, if_true]
end Go.Proofs.Ytkajfadhlgmcjaa.PC
