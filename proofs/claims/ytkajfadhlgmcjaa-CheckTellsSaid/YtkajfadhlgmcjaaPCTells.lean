import Derived.Test.YtkajfadhlgmcjaaPCLaw
import Derived.Test.YtkajfadhlgmcjaaPCx12
import Derived.Test.YtkajfadhlgmcjaaPCx12
import Derived.Test.YtkajfadhlgmcjaaPCx16
import Derived.Test.YtkajfadhlgmcjaaPCx14
import Derived.Test.YtkajfadhlgmcjaaPCx18
import Derived.Test.YtkajfadhlgmcjaaPCx6
import Derived.Test.YtkajfadhlgmcjaaPCx6
import Derived.Test.YtkajfadhlgmcjaaPCx6
import Derived.Test.YtkajfadhlgmcjaaPCx18
import Derived.Test.YtkajfadhlgmcjaaPCx18
import Derived.Test.YtkajfadhlgmcjaaPCx18
import Derived.Test.YtkajfadhlgmcjaaPCx18
import Derived.Test.YtkajfadhlgmcjaaPCx18
import Derived.Test.YtkajfadhlgmcjaaPCx18
import Derived.Test.YtkajfadhlgmcjaaPCx18
import Derived.Test.YtkajfadhlgmcjaaPCx18
import Derived.Test.YtkajfadhlgmcjaaPCx19
import Derived.Test.YtkajfadhlgmcjaaPCx20
import Derived.Test.YtkajfadhlgmcjaaPCx21
import Derived.Test.YtkajfadhlgmcjaaPCx21
import Derived.Test.YtkajfadhlgmcjaaPCx21
import Derived.Test.YtkajfadhlgmcjaaPCx22
namespace Go.Proofs.Ytkajfadhlgmcjaa.PC
open Go Go.RowKit Go.Proofs.Ytkajfadhlgmcjaa Go.Proofs.YtkajfadhlgmcjaaW.PrintWords Go.Proofs.YtkajfadhlgmcjaaW.PrintLast Go.Proofs.YtkajfadhlgmcjaaW.PrintMore
set_option linter.unusedVariables false
set_option linter.unusedSimpArgs false
def becB (t c n : Lab) : Bool := plainB n && (leqB t n && leqB n c)
def spaB (t c n m : Lab) : Bool := plainB n && (plainB m && (leqB t n && (leqB n m && leqB m c)))
theorem becB_iff {t c n : Lab} : becB t c n = true ↔ plainB n = true ∧ leqB t n = true ∧ leqB n c = true := by unfold becB; simp only [Bool.and_eq_true]
theorem spaB_iff {t c n m : Lab} : spaB t c n m = true ↔ plainB n = true ∧ plainB m = true ∧ leqB t n = true ∧ leqB n m = true ∧ leqB m c = true := by unfold spaB; simp only [Bool.and_eq_true]
theorem become_f (t c n : Lab) (ht : t.length ≤ 1000) (hc : c.length ≤ 1000) (hn : n.length ≤ 1000) : check_Become.f (ofLab t) (ofLab c) (ofLab n) = some (becB t c n) := by
  unfold check_Become.f becB; simp only [ofLab_len, toL_ofLab]; rw [if_pos ⟨ht, hc, hn⟩]
theorem spawn_f (t c n m : Lab) (ht : t.length ≤ 1000) (hc : c.length ≤ 1000) (hn : n.length ≤ 1000) (hm : m.length ≤ 1000) : check_Spawn.f (ofLab t) (ofLab c) (ofLab n) (ofLab m) = some (spaB t c n m) := by
  unfold check_Spawn.f spaB; simp only [ofLab_len, toL_ofLab]; rw [if_pos ⟨ht, hc, hn, hm⟩]
def creB (t c o : Lab) : Bool := decide (ownedB o = []) && (plainB o && (leqB t o && leqB o c))
theorem creB_iff {t c o : Lab} : creB t c o = true ↔ ownedB o = [] ∧ plainB o = true ∧ leqB t o = true ∧ leqB o c = true := by unfold creB; simp only [Bool.and_eq_true, decide_eq_true_eq]
theorem create_f (t c o : Lab) (ht : t.length ≤ 1000) (hc : c.length ≤ 1000) (hn : o.length ≤ 1000) : check_Create.f (ofLab t) (ofLab c) (ofLab o) = some (creB t c o) := by
  unfold check_Create.f creB; simp only [ofLab_len, toL_ofLab]; rw [if_pos ⟨ht, hc, hn⟩]
def entB (t c g k n m : Lab) : Bool := plainB n && (plainB m && (leqB t k && (leqB (lowerB (joinB (raiseB t) (raiseB g))) n && (leqB n m && leqB m (joinB c k)))))
theorem entB_iff {t c g k n m : Lab} : entB t c g k n m = true ↔ plainB n = true ∧ plainB m = true ∧ leqB t k = true ∧ leqB (lowerB (joinB (raiseB t) (raiseB g))) n = true ∧ leqB n m = true ∧ leqB m (joinB c k) = true := by unfold entB; simp only [Bool.and_eq_true]
theorem enter_f (t c g k n m : Lab) (h0 : t.length ≤ 1000) (h1 : c.length ≤ 1000) (h2 : g.length ≤ 1000) (h3 : k.length ≤ 1000) (h4 : n.length ≤ 1000) (h5 : m.length ≤ 1000) : check_Enter.f (ofLab t) (ofLab c) (ofLab g) (ofLab k) (ofLab n) (ofLab m) = some (entB t c g k n m) := by
  unfold check_Enter.f entB; simp only [ofLab_len, toL_ofLab]; rw [if_pos ⟨h0, h1, h2, h3, h4, h5⟩]
def placeB (d o : Lab) : Bool := d.all (fun p => decide (p.2 ≤ max (getL (raiseB o) p.1) 2))
theorem get_f {a : Lab} (fa : FitL a) (ha : a.length ≤ 1000) (c : Int) : label_Get.f (ofLab a) c = some (getL a c) := by
  unfold label_Get.f; rw [ofLab_len, toL_ofLab, if_pos ⟨sortB_of fa.sorted, by omega⟩]
theorem mx_max (a b : Int) : mx a b = max a b := by unfold mx; split <;> omega
theorem place_loop (d o : Lab) (fo : FitL o) (hd : d.length ≤ 1000) (ho : o.length ≤ 1000) : ∀ (n k i : Nat), i + n = d.length → n < k → check_Place.l0 k (ofLab o) (ofLab d) (d.length : Int) (i : Int) = some (placeB (d.drop i) o) := by
  have hr := raiseB_len o
  intro n
  induction n with
  | zero =>
    intro k i hi hk
    obtain ⟨k, rfl⟩ : ∃ m, k = m + 1 := ⟨k - 1, by omega⟩
    simp only [check_Place.l0, ofLab_len]
    rw [if_neg (by omega), List.drop_of_length_le (by omega)]
    rfl
  | succ n ih =>
    intro k i hi hk
    obtain ⟨k, rfl⟩ : ∃ m, k = m + 1 := ⟨k - 1, by omega⟩
    have hil : i < d.length := by omega
    have ih' := ih k (i + 1) (by omega) (by omega)
    have hw := w64s i (by omega)
    simp only [check_Place.l0, ofLab_len]
    rw [if_pos (by omega), if_pos (by omega), if_pos (by omega), raise_f o ho, Option.bind_some, rd_ofLab d i hil]
    simp only []
    rw [get_f (raise_fit fo) (by omega), Option.bind_some, mx_max, hw, ih', List.drop_eq_getElem_cons hil]
    have e : placeB (d[i] :: d.drop (i + 1)) o = (decide (d[i].2 ≤ max (getL (raiseB o) d[i].1) 2) && placeB (d.drop (i + 1)) o) := rfl
    rw [e]
    by_cases h1 : d[i].2 > max (getL (raiseB o) d[i].1) 2
    · rw [if_pos h1, decide_eq_false (by omega)]; rfl
    · rw [if_neg h1, decide_eq_true (by omega), Bool.true_and]
theorem place_f (d o : Lab) (fo : FitL o) (hd : d.length ≤ 1000) (ho : o.length ≤ 1000) (k : Nat) (hk : 1000 < k) : check_Place.f k (ofLab d) (ofLab o) = some (placeB d o) := by
  have := place_loop d o fo hd ho d.length k 0 (by omega) (by omega)
  unfold check_Place.f
  rw [ofLab_len]
  exact this
theorem placeB_iff {d o : Lab} (fd : FitL d) (fo : FitL o) : placeB d o = true ↔ ∀ c, getL d c ≤ max (rz (getL o c)) 2 := by
  unfold placeB
  rw [List.all_eq_true]
  constructor
  · intro h c
    rcases getL_or fd.sorted c with ⟨p, hp, rfl, he⟩ | ⟨_, he⟩
    · have := of_decide_eq_true (h p hp)
      rw [raise_getz fo] at this
      rw [he]; exact this
    · rw [he]; omega
  · intro h p hp
    have := h p.1
    rw [getL_mem fd.sorted hp] at this
    exact decide_eq_true (by rw [raise_getz fo]; exact this)
theorem rowned_loop (l : Lab) (hlen : l.length ≤ 1000) : ∀ (d k i : Nat) (out : List Int), i + d = l.length → d < k → out.length ≤ i → curtilageref02_Owned.l0 k (ofLab l) out (i : Int) = some (out ++ ownedB (l.drop i)) := by
  intro d
  induction d with
  | zero =>
    intro k i out hi hk ho
    obtain ⟨k, rfl⟩ : ∃ m, k = m + 1 := ⟨k - 1, by omega⟩
    simp only [curtilageref02_Owned.l0, ofLab_len]
    rw [if_neg (by omega), List.drop_of_length_le (by omega)]
    simp [ownedB]
  | succ d ih =>
    intro k i out hi hk ho
    obtain ⟨k, rfl⟩ : ∃ m, k = m + 1 := ⟨k - 1, by omega⟩
    have hil : i < l.length := by omega
    have hw := w64s i (by omega)
    simp only [curtilageref02_Owned.l0, ofLab_len]
    rw [if_pos (by omega), if_pos (by omega), rd_ofLab l i hil, hw, List.drop_eq_getElem_cons hil]
    by_cases h1 : l[i].2 = 0
    · rw [if_pos h1, if_pos (by omega), ih k (i + 1) _ (by omega) (by omega) (by simp; omega)]
      rw [ownedB_cons, if_pos h1, List.append_assoc]; rfl
    · rw [if_neg h1, ih k (i + 1) _ (by omega) (by omega) (by omega), ownedB_cons, if_neg h1]
theorem rowned_f (l : Lab) (hlen : l.length ≤ 1000) (k : Nat) (hk : 1000 < k) : curtilageref02_Owned.f k (ofLab l) = some (ownedB l) := by
  have := rowned_loop l hlen l.length k 0 [] (by omega) (by omega) (by simp)
  rw [List.drop_zero, List.nil_append] at this
  exact this
theorem ownedB_mem {l : Lab} (h : FitL l) {x : Int} : x ∈ ownedB l ↔ getL l x = 0 := by
  unfold ownedB
  simp only [List.mem_map, List.mem_filter, beq_iff_eq]
  constructor
  · rintro ⟨p, ⟨hp, h0⟩, rfl⟩
    rw [getL_mem h.sorted hp]; exact h0
  · intro h0
    rcases getL_or h.sorted x with ⟨p, hp, rfl, he⟩ | ⟨_, he⟩
    · exact ⟨p, ⟨hp, by rw [← he]; exact h0⟩, rfl⟩
    · rw [he] at h0; exact absurd h0 (by decide)
theorem rd_int (l : List Int) (i : Nat) (h : i < l.length) : rd l (i : Int) = l[i] := by unfold rd; simp [h]
theorem rplain_loop (l : Lab) (hlen : l.length ≤ 1000) : ∀ (d k i : Nat), i + d = l.length → d < k → curtilageref03_plain.l0 k (ofLab l) (i : Int) = some (plainB (l.drop i)) := by
  intro d
  induction d with
  | zero =>
    intro k i hi hk
    obtain ⟨k, rfl⟩ : ∃ m, k = m + 1 := ⟨k - 1, by omega⟩
    simp only [curtilageref03_plain.l0, ofLab_len]
    rw [if_neg (by omega), List.drop_of_length_le (by omega)]
    rfl
  | succ d ih =>
    intro k i hi hk
    obtain ⟨k, rfl⟩ : ∃ m, k = m + 1 := ⟨k - 1, by omega⟩
    have hil : i < l.length := by omega
    have ih' := ih k (i + 1) (by omega) (by omega)
    have hw := w64s i (by omega)
    simp only [curtilageref03_plain.l0, ofLab_len]
    rw [if_pos (by omega), if_pos (by omega), rd_ofLab l i hil, hw, ih', List.drop_eq_getElem_cons hil, plainB_cons]
    by_cases h1 : l[i].2 = 5
    · rw [if_pos h1, h1]; rfl
    · rw [if_neg h1, bne_iff_ne.2 h1, Bool.true_and]
theorem rplain_f (l : Lab) (hlen : l.length ≤ 1000) (k : Nat) (hk : 1000 < k) : curtilageref03_plain.f k (ofLab l) = some (plainB l) := by
  have := rplain_loop l hlen l.length k 0 (by omega) (by omega)
  exact this
theorem r1lower (a : Int) : curtilageref01_Lower.f a = some (loL a) := by
  unfold curtilageref01_Lower.f loL; rw [r1of]
  simp only [Option.bind_some]
  by_cases h : ofL a = 5
  · rw [if_pos h, if_pos h]
  · rw [if_neg h, if_neg h]
theorem rlower_loop (l : Lab) (hlen : l.length ≤ 1000) : ∀ (d k i : Nat) (out : Lab), i + d = l.length → d < k → out.length ≤ i → curtilageref02_Lower.l0 k (ofLab l) (ofLab out) (i : Int) = some (ofLab (out ++ (l.drop i).map (fun p => (p.1, loL p.2)))) := by
  intro d
  induction d with
  | zero =>
    intro k i out hi hk ho
    obtain ⟨k, rfl⟩ : ∃ m, k = m + 1 := ⟨k - 1, by omega⟩
    simp only [curtilageref02_Lower.l0, ofLab_len]
    rw [if_neg (by omega), List.drop_of_length_le (by omega), List.map_nil, List.append_nil]
  | succ d ih =>
    intro k i out hi hk ho
    obtain ⟨k, rfl⟩ : ∃ m, k = m + 1 := ⟨k - 1, by omega⟩
    have hil : i < l.length := by omega
    have hw := w64s i (by omega)
    simp only [curtilageref02_Lower.l0, ofLab_len]
    rw [if_pos (by omega), if_pos (by omega), rd_ofLab l i hil]
    simp only []
    rw [r1lower, Option.bind_some, if_pos (by omega), hw, ofLab_snoc out (l[i].1, loL l[i].2), ih k (i + 1) _ (by omega) (by omega) (by simp; omega), List.drop_eq_getElem_cons hil, List.map_cons, List.append_assoc]
    rfl
theorem rlower_f {a : Lab} (fa : FitL a) (ha : a.length ≤ 1000) (k : Nat) (hk : 1000 < k) : curtilageref02_Lower.f k (ofLab a) = some (ofLab (lowerB a)) := by
  have := rlower_loop a ha a.length k 0 [] (by omega) (by omega) (by simp)
  rw [List.drop_zero, List.nil_append] at this
  unfold curtilageref02_Lower.f
  refine Eq.trans this ?_
  rw [lab_ext (lab_map_fit (F := loL) (fun x h0 h5 h2 => by
    unfold loL
    rw [ofL_of ⟨h0, h5⟩]
    by_cases hx : x = 5
    · rw [if_pos hx]; decide
    · rw [if_neg hx]; exact ⟨h0, h5, h2⟩) fa) (lower_fit fa) (fun c => by
    rw [lab_map_get (F := loL) rfl, lower_get fa]
    have := getL_range fa c
    unfold loL; rw [ofL_of this])]
theorem cats_loop (a b : List Int) (he : a.length = b.length) (hlen : a.length ≤ 5000) : ∀ (d k i : Nat), i + d = a.length → d < k → curtilageref02_Cats.l0 k a b (i : Int) = some (decide (a.drop i = b.drop i)) := by
  intro d
  induction d with
  | zero =>
    intro k i hi hk
    obtain ⟨k, rfl⟩ : ∃ m, k = m + 1 := ⟨k - 1, by omega⟩
    simp only [curtilageref02_Cats.l0]
    rw [if_neg (by omega)]
    congr 1; symm
    exact decide_eq_true (by rw [List.drop_of_length_le (by omega), List.drop_of_length_le (by omega)])
  | succ d ih =>
    intro k i hi hk
    obtain ⟨k, rfl⟩ : ∃ m, k = m + 1 := ⟨k - 1, by omega⟩
    have ha : i < a.length := by omega
    have hb : i < b.length := by omega
    have ih' := ih k (i + 1) (by omega) (by omega)
    have hw := w64s i (by omega)
    simp only [curtilageref02_Cats.l0]
    rw [if_pos (by omega), if_pos (by omega), if_pos (by omega), rd_int a i ha, rd_int b i hb, hw, ih']
    rw [List.drop_eq_getElem_cons ha, List.drop_eq_getElem_cons hb]
    by_cases h1 : a[i] = b[i]
    · rw [if_pos h1]
      congr 1
      exact decide_eq_decide.2 ⟨fun h => by rw [h1, h], fun h => (List.cons.inj h).2⟩
    · rw [if_neg h1]
      congr 1; symm
      exact decide_eq_false fun h => h1 (List.cons.inj h).1
theorem cats_f (a b : List Int) (hlen : a.length ≤ 5000) (k : Nat) (hk : 5000 < k) : curtilageref02_Cats.f k a b = some (decide (a = b)) := by
  unfold curtilageref02_Cats.f
  by_cases he : a.length = b.length
  · rw [if_pos (by omega)]
    have := cats_loop a b he hlen a.length k 0 (by omega) (by omega)
    simp only [List.drop_zero] at this
    exact this
  · rw [if_neg (by omega)]
    congr 1; symm
    exact decide_eq_false fun h => he (by rw [h])
/-- A rising list with one more, as the reference makes it. -/
def insG (x : Int) : List Int → Bool → List Int
  | [], true => []
  | [], false => [x]
  | y :: t, done => if done = false ∧ y ≥ x then x :: (if y = x then insG x t true else y :: insG x t true) else if y = x then insG x t done else y :: insG x t done
theorem insG_true (x : Int) (l : List Int) : insG x l true = l.filter (fun y => y != x) := by
  induction l with
  | nil => rfl
  | cons p t ih =>
    unfold insG
    rw [if_neg (by simp), ih]
    by_cases h : p = x
    · rw [if_pos h, List.filter_cons_of_neg (by simpa using h)]
    · rw [if_neg h, List.filter_cons_of_pos (by simpa using h)]
theorem insG_mem (x z : Int) (l : List Int) : z ∈ insG x l false ↔ z = x ∨ z ∈ l := by
  induction l with
  | nil => simp [insG]
  | cons p t ih =>
    unfold insG
    by_cases h1 : p ≥ x
    · rw [if_pos ⟨rfl, h1⟩, insG_true]
      by_cases h2 : p = x
      · rw [if_pos h2]; simp only [List.mem_cons, List.mem_filter, bne_iff_ne, ne_eq]
        constructor
        · rintro (h | ⟨h, _⟩)
          · exact .inl h
          · exact .inr (.inr h)
        · rintro (h | h | h)
          · exact .inl h
          · exact .inl (h.trans h2)
          · by_cases hz : z = x
            · exact .inl hz
            · exact .inr ⟨h, hz⟩
      · rw [if_neg h2]; simp only [List.mem_cons, List.mem_filter, bne_iff_ne, ne_eq]
        constructor
        · rintro (h | h | ⟨h, _⟩)
          · exact .inl h
          · exact .inr (.inl h)
          · exact .inr (.inr h)
        · rintro (h | h | h)
          · exact .inl h
          · exact .inr (.inl h)
          · by_cases hz : z = x
            · exact .inl hz
            · exact .inr (.inr ⟨h, hz⟩)
    · rw [if_neg (by simpa using h1), if_neg (by omega), List.mem_cons, ih, List.mem_cons]
      constructor
      · rintro (h | h | h)
        · exact .inr (.inl h)
        · exact .inl h
        · exact .inr (.inr h)
      · rintro (h | h | h)
        · exact .inr (.inl h)
        · exact .inl h
        · exact .inr (.inr h)
theorem insG_sorted (x : Int) {l : List Int} (h : l.Pairwise (· < ·)) : (insG x l false).Pairwise (· < ·) := by
  induction l with
  | nil => simp [insG]
  | cons p t ih =>
    obtain ⟨hh, ht⟩ := List.pairwise_cons.1 h
    unfold insG
    by_cases h1 : p ≥ x
    · rw [if_pos ⟨rfl, h1⟩, insG_true]
      have hf : (t.filter (fun y => y != x)).Pairwise (· < ·) := List.Pairwise.filter _ ht
      by_cases h2 : p = x
      · rw [if_pos h2]
        exact List.pairwise_cons.2 ⟨fun z hz => by have := hh z (List.mem_filter.1 hz).1; omega, hf⟩
      · rw [if_neg h2]
        refine List.pairwise_cons.2 ⟨fun z hz => ?_, List.pairwise_cons.2 ⟨fun z hz => hh z (List.mem_filter.1 hz).1, hf⟩⟩
        rcases List.mem_cons.1 hz with rfl | hz
        · omega
        · have := hh z (List.mem_filter.1 hz).1; omega
    · rw [if_neg (by simpa using h1), if_neg (by omega)]
      refine List.pairwise_cons.2 ⟨fun z hz => ?_, ih ht⟩
      rcases (insG_mem x z t).1 hz with rfl | hz
      · omega
      · exact hh z hz
theorem insG_len (x : Int) : ∀ (l : List Int) (b : Bool), (insG x l b).length ≤ l.length + 1
  | [], true => by simp [insG]
  | [], false => by simp [insG]
  | p :: t, b => by
    have h1 := insG_len x t b
    unfold insG
    by_cases h : b = false ∧ p ≥ x
    · have h3 : (insG x t true).length ≤ t.length := by rw [insG_true]; exact List.length_filter_le _ _
      rw [if_pos h]
      split <;> simp <;> omega
    · rw [if_neg h]
      split <;> simp <;> omega
theorem rins_loop (l : List Int) (c : Int) (hlen : l.length ≤ 3000) : ∀ (d k i : Nat) (out : List Int) (done : Bool), i + d = l.length → 2 * d + 1 < k → out.length ≤ 2 * i + 2 →
    curtilageref03_insert.l0 k l c out done (i : Int) = some (out ++ insG c (l.drop i) done) := by
  intro d
  induction d with
  | zero =>
    intro k i out done hi hk ho
    obtain ⟨k, rfl⟩ : ∃ m, k = m + 1 := ⟨k - 1, by omega⟩
    simp only [curtilageref03_insert.l0]
    rw [if_neg (by omega), List.drop_of_length_le (by omega)]
    cases done with
    | true => rw [if_pos rfl]; unfold insG; rw [List.append_nil]
    | false => rw [if_neg (by decide), if_pos (by omega)]; unfold insG; rfl
  | succ d ih =>
    intro k i out done hi hk ho
    obtain ⟨k, rfl⟩ : ∃ m, k = m + 2 := ⟨k - 2, by omega⟩
    have hil : i < l.length := by omega
    have hw := w64s i (by omega)
    have hx1 : (i : Int) < (l.length : Int) := by omega
    have hx0 : (0 : Int) ≤ (i : Int) := by omega
    have rest : ∀ (o : List Int) (dn : Bool), o.length ≤ 2 * i + 3 →
        (if 0 ≤ (i : Int) then (if (i : Int) < (l.length : Int) then (if (rd l (i : Int)) = c then (curtilageref03_insert.l0 k l c o dn (wrap64 ((i : Int) + 1))) else (if o.length < 17592186044416 then (curtilageref03_insert.l0 k l c (o ++ [rd l (i : Int)]) dn (wrap64 ((i : Int) + 1))) else (none))) else (none)) else (none))
        = some (o ++ (if l[i] = c then insG c (l.drop (i + 1)) dn else l[i] :: insG c (l.drop (i + 1)) dn)) := by
      intro o dn hol
      rw [if_pos hx0, if_pos hx1, rd_int l i hil, hw]
      by_cases h : l[i] = c
      · rw [if_pos h, if_pos h]
        exact ih k (i + 1) o dn (by omega) (by omega) (by omega)
      · rw [if_neg h, if_neg h, if_pos (by omega), ih k (i + 1) _ dn (by omega) (by omega) (by simp; omega), List.append_assoc]
        rfl
    simp only [curtilageref03_insert.l0]
    rw [if_pos hx1, List.drop_eq_getElem_cons hil]
    have hj : ∀ b : Bool, curtilageref03_insert.j1 (k + 1) l c out done (i : Int) b = if b = true then some (out ++ (c :: (if l[i] = c then insG c (l.drop (i + 1)) true else l[i] :: insG c (l.drop (i + 1)) true))) else some (out ++ (if l[i] = c then insG c (l.drop (i + 1)) done else l[i] :: insG c (l.drop (i + 1)) done)) := by
      intro b
      simp only [curtilageref03_insert.j1]
      cases b with
      | true =>
        rw [if_pos rfl, if_pos rfl, if_pos (by omega), Option.bind_some]
        refine Eq.trans (rest (out ++ [c]) true (by simp; omega)) ?_
        rw [List.append_assoc]; rfl
      | false =>
        rw [if_neg (show ¬ (false = true) by decide), if_neg (show ¬ (false = true) by decide)]
        exact rest out done (by omega)
    have hG : insG c (l[i] :: l.drop (i + 1)) done = if done = false ∧ l[i] ≥ c then c :: (if l[i] = c then insG c (l.drop (i + 1)) true else l[i] :: insG c (l.drop (i + 1)) true) else if l[i] = c then insG c (l.drop (i + 1)) done else l[i] :: insG c (l.drop (i + 1)) done := rfl
    rw [hG]
    cases done with
    | true =>
      rw [if_pos rfl, hj, if_neg (show ¬ (false = true) by decide), if_neg (show ¬ (true = false ∧ l[i] ≥ c) from fun h => Bool.noConfusion h.1)]
    | false =>
      rw [if_neg (by decide), if_pos hx0, rd_int l i hil, hj]
      by_cases h : l[i] ≥ c
      · rw [if_pos (decide_eq_true h), if_pos (show false = false ∧ l[i] ≥ c from ⟨rfl, h⟩)]
      · rw [if_neg (by simpa using h), if_neg (show ¬ (false = false ∧ l[i] ≥ c) from fun hh => h hh.2)]
theorem rins_f (l : List Int) (c : Int) (hlen : l.length ≤ 3000) (k : Nat) (hk : 2 * l.length + 1 < k) : curtilageref03_insert.f k l c = some (insG c l false) := by
  have := rins_loop l c hlen l.length k 0 [] false (by omega) hk (by simp)
  rw [List.drop_zero, List.nil_append] at this
  exact this
theorem list_ext {l m : List Int} (hl : l.Pairwise (· < ·)) (hm : m.Pairwise (· < ·)) (h : ∀ x, x ∈ l ↔ x ∈ m) : l = m := by
  induction l generalizing m with
  | nil =>
    cases m with
    | nil => rfl
    | cons y t => have := (h y).2 (by simp); simp at this
  | cons x s ih =>
    obtain ⟨hx, hs⟩ := List.pairwise_cons.1 hl
    cases m with
    | nil => have := (h x).1 (by simp); simp at this
    | cons y t =>
      obtain ⟨hy, ht⟩ := List.pairwise_cons.1 hm
      have e : x = y := by
        rcases List.mem_cons.1 ((h x).1 (by simp)) with e | e
        · exact e
        · rcases List.mem_cons.1 ((h y).2 (by simp)) with e2 | e2
          · exact e2.symm
          · have h1 := hx y e2; have h2 := hy x e; omega
      subst e
      congr 1
      refine ih hs ht fun z => ?_
      constructor
      · intro hz
        rcases List.mem_cons.1 ((h z).1 (List.mem_cons_of_mem _ hz)) with e | e
        · have := hx z hz; omega
        · exact e
      · intro hz
        rcases List.mem_cons.1 ((h z).2 (List.mem_cons_of_mem _ hz)) with e | e
        · have := hy z hz; omega
        · exact e
/-- What the reference hides by, first the thread's categories, then the observer's. -/
def hid1 (u v : Lab) : List Int := (u.filter (fun p => decide (p.2 > getL v p.1))).map (·.1)
def hid2 (t u : Lab) (out : List Int) (v : Lab) : List Int := v.foldl (fun o q => if getL u q.1 > q.2 ∧ getL t q.1 = 2 then insG q.1 o false else o) out
theorem hid2_len (t u : Lab) (v : Lab) : ∀ out : List Int, (hid2 t u out v).length ≤ out.length + v.length := by
  induction v with
  | nil => intro out; simp [hid2]
  | cons q v ih =>
    intro out
    unfold hid2 at ih ⊢
    rw [List.foldl_cons]
    split
    · have h1 := ih (insG q.1 out false)
      have h2 := insG_len q.1 out false
      simp only [List.length_cons]; omega
    · have h1 := ih out
      simp only [List.length_cons]; omega
theorem hid2_sorted (t u : Lab) (v : Lab) : ∀ {out : List Int}, out.Pairwise (· < ·) → (hid2 t u out v).Pairwise (· < ·) := by
  induction v with
  | nil => intro out h; exact h
  | cons q v ih =>
    intro out h
    unfold hid2 at ih ⊢
    rw [List.foldl_cons]
    split
    · exact ih (insG_sorted _ h)
    · exact ih h
theorem hid2_mem (t u : Lab) (x : Int) (v : Lab) : ∀ out : List Int, x ∈ hid2 t u out v ↔ x ∈ out ∨ ∃ q ∈ v, q.1 = x ∧ getL u q.1 > q.2 ∧ getL t q.1 = 2 := by
  induction v with
  | nil => intro out; simp [hid2]
  | cons q v ih =>
    intro out
    unfold hid2 at ih ⊢
    rw [List.foldl_cons]
    by_cases h : getL u q.1 > q.2 ∧ getL t q.1 = 2
    · rw [if_pos h, ih, insG_mem]
      constructor
      · rintro ((rfl | h1) | ⟨p, hp, h2⟩)
        · exact .inr ⟨q, by simp, rfl, h⟩
        · exact .inl h1
        · exact .inr ⟨p, by simp [hp], h2⟩
      · rintro (h1 | ⟨p, hp, h2, h3⟩)
        · exact .inl (.inr h1)
        · rcases List.mem_cons.1 hp with rfl | hp
          · exact .inl (.inl h2.symm)
          · exact .inr ⟨p, hp, h2, h3⟩
    · rw [if_neg h, ih]
      constructor
      · rintro (h1 | ⟨p, hp, h2⟩)
        · exact .inl h1
        · exact .inr ⟨p, by simp [hp], h2⟩
      · rintro (h1 | ⟨p, hp, h2, h3⟩)
        · exact .inl h1
        · rcases List.mem_cons.1 hp with rfl | hp
          · exact absurd h3 h
          · exact .inr ⟨p, hp, h2, h3⟩
theorem hid1_len (u v : Lab) : (hid1 u v).length ≤ u.length := by unfold hid1; rw [List.length_map]; exact List.length_filter_le _ _
theorem rhid_loop1 (t u v : Lab) (ht : t.length ≤ 400) (hu : u.length ≤ 400) (hv : v.length ≤ 400) : ∀ (d k i : Nat) (out : List Int), i + d = v.length → d + 3000 < k → out.length ≤ 400 + i →
    curtilageref03_Hides.l1 k (ofLab t) (ofLab v) (ofLab u) out (i : Int) = some (hid2 t u out (v.drop i)) := by
  intro d
  induction d with
  | zero =>
    intro k i out hi hk ho
    obtain ⟨k, rfl⟩ : ∃ m, k = m + 1 := ⟨k - 1, by omega⟩
    simp only [curtilageref03_Hides.l1, ofLab_len]
    rw [if_neg (by omega), List.drop_of_length_le (by omega)]
    rfl
  | succ d ih =>
    intro k i out hi hk ho
    obtain ⟨k, rfl⟩ : ∃ m, k = m + 1 := ⟨k - 1, by omega⟩
    have hil : i < v.length := by omega
    have hw := w64s i (by omega)
    have hin := insG_len v[i].1 out false
    simp only [curtilageref03_Hides.l1, ofLab_len]
    rw [if_pos (by omega), if_pos (by omega), rd_ofLab v i hil]
    simp only []
    rw [rget_f u _ (by omega) k (by omega), rget_f t _ (by omega) k (by omega), Option.bind_some, Option.bind_some, rins_f out _ (by omega) k (by omega), Option.bind_some, hw, List.drop_eq_getElem_cons hil]
    have e : hid2 t u out (v[i] :: v.drop (i + 1)) = hid2 t u (if getL u v[i].1 > v[i].2 ∧ getL t v[i].1 = 2 then insG v[i].1 out false else out) (v.drop (i + 1)) := rfl
    rw [e]
    by_cases h1 : getL u v[i].1 > v[i].2
    · rw [if_pos h1]
      by_cases h2 : getL t v[i].1 = 2
      · rw [if_pos h2, if_pos ⟨h1, h2⟩]; exact ih k (i + 1) _ (by omega) (by omega) (by omega)
      · rw [if_neg h2, if_neg (fun h => h2 h.2)]; exact ih k (i + 1) _ (by omega) (by omega) (by omega)
    · rw [if_neg h1, if_neg (fun h => h1 h.1)]; exact ih k (i + 1) _ (by omega) (by omega) (by omega)
theorem rhid_loop0 (t u v : Lab) (ht : t.length ≤ 400) (hu : u.length ≤ 400) (hv : v.length ≤ 400) : ∀ (d k i : Nat) (out : List Int), i + d = u.length → d + 4000 < k → out.length ≤ i →
    curtilageref03_Hides.l0 k (ofLab t) (ofLab v) (ofLab u) out (i : Int) = some (hid2 t u (out ++ hid1 (u.drop i) v) v) := by
  intro d
  induction d with
  | zero =>
    intro k i out hi hk ho
    obtain ⟨k, rfl⟩ : ∃ m, k = m + 1 := ⟨k - 1, by omega⟩
    simp only [curtilageref03_Hides.l0, ofLab_len]
    rw [if_neg (by omega), List.drop_of_length_le (by omega)]
    have := rhid_loop1 t u v ht hu hv v.length k 0 out (by omega) (by omega) (by omega)
    rw [List.drop_zero] at this
    refine Eq.trans this ?_
    simp [hid1]
  | succ d ih =>
    intro k i out hi hk ho
    obtain ⟨k, rfl⟩ : ∃ m, k = m + 1 := ⟨k - 1, by omega⟩
    have hil : i < u.length := by omega
    have hw := w64s i (by omega)
    simp only [curtilageref03_Hides.l0, ofLab_len]
    rw [if_pos (by omega), if_pos (by omega), rd_ofLab u i hil]
    simp only []
    rw [rget_f v _ (by omega) k (by omega), Option.bind_some, hw, List.drop_eq_getElem_cons hil]
    have e : hid1 (u[i] :: u.drop (i + 1)) v = if u[i].2 > getL v u[i].1 then u[i].1 :: hid1 (u.drop (i + 1)) v else hid1 (u.drop (i + 1)) v := by
      unfold hid1
      by_cases h : u[i].2 > getL v u[i].1
      · rw [List.filter_cons_of_pos (by exact decide_eq_true h), if_pos h]; rfl
      · rw [List.filter_cons_of_neg (by simpa using h), if_neg h]
    rw [e]
    by_cases h1 : u[i].2 > getL v u[i].1
    · rw [if_pos h1, if_pos h1, if_pos (by omega), ih k (i + 1) _ (by omega) (by omega) (by simp; omega), List.append_assoc]; rfl
    · rw [if_neg h1, if_neg h1, ih k (i + 1) _ (by omega) (by omega) (by omega)]
theorem hidesB_sorted {t v : Lab} (ft : FitL t) (fv : FitL v) : (hidesB t v).Pairwise (· < ·) := by
  unfold hidesB hidX
  rw [List.pairwise_filterMap]
  refine (mergeB_sorted (raise_fit ft).sorted fv.sorted).imp ?_
  intro a b hab x hx y hy
  split at hx
  · split at hy
    · obtain rfl := Option.some.inj hx; obtain rfl := Option.some.inj hy; exact hab
    · cases hy
  · cases hx
theorem rhides_f {t v : Lab} (ft : FitL t) (fv : FitL v) (ht : t.length ≤ 400) (hv : v.length ≤ 400) (k : Nat) (hk : 5000 ≤ k) : curtilageref03_Hides.f k (ofLab t) (ofLab v) = some (hidesB t v) := by
  have hr := raiseB_len t
  have := rhid_loop0 t (raiseB t) v ht (by omega) hv (raiseB t).length k 0 [] (by omega) (by omega) (by simp)
  rw [List.drop_zero, List.nil_append] at this
  unfold curtilageref03_Hides.f
  rw [rraise_f ft (by omega) k (by omega), Option.bind_some]
  refine Eq.trans this ?_
  have fu := raise_fit ft
  have hs1 : (hid1 (raiseB t) v).Pairwise (· < ·) := by
    unfold hid1; rw [List.pairwise_map]; exact List.Pairwise.filter _ fu.sorted
  congr 1
  refine list_ext (hid2_sorted _ _ _ hs1) (hidesB_sorted ft fv) fun x => ?_
  rw [hid2_mem, hidesB_mem ft fv, ← raise_getz ft]
  constructor
  · rintro (h | ⟨q, hq, rfl, h1, h2⟩)
    · unfold hid1 at h
      obtain ⟨p, hp, rfl⟩ := List.mem_map.1 h
      obtain ⟨hp1, hp2⟩ := List.mem_filter.1 hp
      rw [getL_mem fu.sorted hp1]
      exact of_decide_eq_true hp2
    · rw [getL_mem fv.sorted hq]; exact h1
  · intro h
    rcases getL_or fu.sorted x with ⟨p, hp, rfl, he⟩ | ⟨_, he⟩
    · left
      unfold hid1
      exact List.mem_map.2 ⟨p, List.mem_filter.2 ⟨hp, decide_eq_true (by rw [← he]; exact h)⟩, rfl⟩
    · right
      rcases getL_or fv.sorted x with ⟨q, hq, rfl, he2⟩ | ⟨_, he2⟩
      · refine ⟨q, hq, rfl, by rw [← he2]; exact h, ?_⟩
        have h5 := raise_getz ft q.1
        rw [he] at h5
        unfold rz at h5
        split at h5 <;> omega
      · rw [he, he2] at h; omega
theorem clear_f (t c n : Lab) (ht : t.length ≤ 1000) (hc : c.length ≤ 1000) (hn : n.length ≤ 1000) : check_Clear.f (ofLab t) (ofLab c) (ofLab n) = some (plainB n && (leqB t n && leqB n (joinB c (raiseB t)))) := by
  unfold check_Clear.f; simp only [ofLab_len, toL_ofLab]; rw [if_pos ⟨ht, hc, hn⟩]
theorem robserve_f {t o : Lab} (ft : FitL t) (fo : FitL o) (ht : t.length ≤ 1000) (ho : o.length ≤ 1000) (k : Nat) (hk : 4000 ≤ k) : curtilageref03_Observe.f k (ofLab t) (ofLab o) = some (leqB o (raiseB t)) := by
  have hr := raiseB_len t
  unfold curtilageref03_Observe.f
  rw [rraise_f ft ht k (by omega), Option.bind_some, rleq_f fo (raise_fit ft) ho (by omega) k (by omega)]
  rfl
set_option maxRecDepth 100000 in
theorem checkTells_pure (l0 l1 l2 l3 l4 l5 : List S46) : ∃ k, curtilagelaw03_CheckTells.f k l0 l1 l2 l3 l4 l5 = some true := by
  obtain ⟨t, rfl⟩ : ∃ a, l0 = ofLab a := ⟨toL l0, (ofLab_toL l0).symm⟩
  obtain ⟨c, rfl⟩ : ∃ a, l1 = ofLab a := ⟨toL l1, (ofLab_toL l1).symm⟩
  obtain ⟨o, rfl⟩ : ∃ a, l2 = ofLab a := ⟨toL l2, (ofLab_toL l2).symm⟩
  obtain ⟨n, rfl⟩ : ∃ a, l3 = ofLab a := ⟨toL l3, (ofLab_toL l3).symm⟩
  obtain ⟨m, rfl⟩ : ∃ a, l4 = ofLab a := ⟨toL l4, (ofLab_toL l4).symm⟩
  obtain ⟨g, rfl⟩ : ∃ a, l5 = ofLab a := ⟨toL l5, (ofLab_toL l5).symm⟩
  refine ⟨10000, ?_⟩
  unfold curtilagelaw03_CheckTells.f
  have hfit := fit3_f [t, c, o, n, m, g] (by simp) 10000 (by omega)
  simp only [List.map_cons, List.map_nil] at hfit
  rw [hfit, Option.bind_some]
  by_cases hf : fit3B [t, c, o, n, m, g] = true
  · rw [if_pos hf]
    have hall := fit3_all hf
    obtain ⟨nt, ft⟩ := hall t (by simp)
    have ntr := raiseB_len t
    obtain ⟨nc, fc⟩ := hall c (by simp)
    have ncr := raiseB_len c
    obtain ⟨no, fo⟩ := hall o (by simp)
    have nor := raiseB_len o
    obtain ⟨nn, fn⟩ := hall n (by simp)
    have nnr := raiseB_len n
    obtain ⟨nm, fm⟩ := hall m (by simp)
    have nmr := raiseB_len m
    obtain ⟨ng, fg⟩ := hall g (by simp)
    have ngr := raiseB_len g
    clear hall hfit hf
    have nh := @hidesB_len t n
    have q1 : curtilageref03_Observe.f 10000 (ofLab t) (ofLab o) = some (leqB o (raiseB t)) := robserve_f ft fo (by omega) (by omega) 10000 (by omega)
    have q2 : curtilageref03_Modify.f 10000 (ofLab t) (ofLab o) = some (leqB t o && leqB o (raiseB t)) := by
      unfold curtilageref03_Modify.f
      rw [q1, Option.bind_some, rleq_f ft fo (by omega) (by omega) 10000 (by omega), Option.bind_some]
      cases leqB o (raiseB t) <;> cases leqB t o <;> rfl
    have q3 : curtilageref03_Place.f 10000 (ofLab t) (ofLab o) = some (placeB t o) := by
      have nj := joinB_len (raiseB o) []
      simp only [List.length_nil] at nj
      have en : ([] : List S46) = ofLab [] := rfl
      unfold curtilageref03_Place.f
      rw [rraise_f fo (by omega) 10000 (by omega), Option.bind_some, en, rjoin_f (raise_fit fo) nil_fit (by omega) (by simp) 10000 (by omega), Option.bind_some, rleq_f ft (join_fit (raise_fit fo) nil_fit) (by omega) (by omega) 10000 (by omega), Option.bind_some]
      congr 1
      rw [Bool.eq_iff_iff, placeB_iff ft fo, leqB_iff ft (join_fit (raise_fit fo) nil_fit)]
      exact ⟨fun h c => by have := h c; rwa [join_get (raise_fit fo) nil_fit, raise_getz fo, getL_nil] at this, fun h c => by rw [join_get (raise_fit fo) nil_fit, raise_getz fo, getL_nil]; exact h c⟩
    have q4 : curtilageref03_Create.f 10000 (ofLab t) (ofLab c) (ofLab o) = some (creB t c o) := by
      unfold curtilageref03_Create.f creB
      rw [rowned_f o (by omega) 10000 (by omega), Option.bind_some, rplain_f o (by omega) 10000 (by omega), Option.bind_some, rleq_f ft fo (by omega) (by omega) 10000 (by omega), Option.bind_some, rleq_f fo fc (by omega) (by omega) 10000 (by omega), Option.bind_some]
      by_cases h : ownedB o = []
      · rw [if_pos ((len0' _).2 h), decide_eq_true h]
        cases plainB o <;> cases leqB t o <;> rfl
      · rw [if_neg (fun hh => h ((len0' _).1 hh)), decide_eq_false h]; rfl
    have q5 : curtilageref03_Spawn.f 9999 (ofLab t) (ofLab c) (ofLab n) (ofLab m) = some (spaB t c n m) := by
      unfold curtilageref03_Spawn.f spaB
      rw [rplain_f n (by omega) 9999 (by omega), Option.bind_some, rplain_f m (by omega) 9999 (by omega), Option.bind_some, rleq_f ft fn (by omega) (by omega) 9999 (by omega), Option.bind_some, rleq_f fn fm (by omega) (by omega) 9999 (by omega), Option.bind_some, rleq_f fm fc (by omega) (by omega) 9999 (by omega), Option.bind_some]
      cases plainB n <;> cases plainB m <;> cases leqB t n <;> cases leqB n m <;> rfl
    have q6 : curtilageref03_Become.f 9999 (ofLab t) (ofLab c) (ofLab n) = some (becB t c n) := by
      unfold curtilageref03_Become.f becB
      rw [rplain_f n (by omega) 9999 (by omega), Option.bind_some, rleq_f ft fn (by omega) (by omega) 9999 (by omega), Option.bind_some, rleq_f fn fc (by omega) (by omega) 9999 (by omega), Option.bind_some]
      cases plainB n <;> cases leqB t n <;> rfl
    have ncr := joinB_len c (raiseB t)
    have q7 : curtilageref03_Clear.f 9999 (ofLab t) (ofLab c) (ofLab n) = some (plainB n && (leqB t n && leqB n (joinB c (raiseB t)))) := by
      unfold curtilageref03_Clear.f
      rw [rplain_f n (by omega) 9999 (by omega), Option.bind_some, rleq_f ft fn (by omega) (by omega) 9999 (by omega), Option.bind_some, rraise_f ft (by omega) 9999 (by omega), Option.bind_some, rjoin_f fc (raise_fit ft) (by omega) (by omega) 9999 (by omega), Option.bind_some, rleq_f fn (join_fit fc (raise_fit ft)) (by omega) (by omega) 9999 (by omega), Option.bind_some]
      cases plainB n <;> cases leqB t n <;> rfl
    have njr := joinB_len (raiseB t) (raiseB g)
    have nlo := lowerB_len (joinB (raiseB t) (raiseB g))
    have nco := joinB_len c o
    have fj := join_fit (raise_fit ft) (raise_fit fg)
    have q8 : curtilageref03_Enter.f 9998 (ofLab t) (ofLab c) (ofLab g) (ofLab o) (ofLab n) (ofLab m) = some (entB t c g o n m) := by
      unfold curtilageref03_Enter.f entB
      rw [rraise_f ft (by omega) 9998 (by omega), Option.bind_some, rraise_f fg (by omega) 9998 (by omega), Option.bind_some, rjoin_f (raise_fit ft) (raise_fit fg) (by omega) (by omega) 9998 (by omega), Option.bind_some, rlower_f fj (by omega) 9998 (by omega), Option.bind_some,
        rplain_f n (by omega) 9998 (by omega), Option.bind_some, rplain_f m (by omega) 9998 (by omega), Option.bind_some, rleq_f ft fo (by omega) (by omega) 9998 (by omega), Option.bind_some, rleq_f (lower_fit fj) fn (by omega) (by omega) 9998 (by omega), Option.bind_some, rleq_f fn fm (by omega) (by omega) 9998 (by omega), Option.bind_some,
        rjoin_f fc fo (by omega) (by omega) 9998 (by omega), Option.bind_some, rleq_f fm (join_fit fc fo) (by omega) (by omega) 9998 (by omega), Option.bind_some]
      cases plainB n <;> cases plainB m <;> cases leqB t o <;> cases leqB (lowerB (joinB (raiseB t) (raiseB g))) n <;> cases leqB n m <;> rfl
    have q9 := rhides_f ft fn (by omega) (by omega) 9998 (by omega)
    have h1 : curtilagelaw03_CheckTells.j1 9999 (ofLab t) (ofLab c) (ofLab o) (ofLab n) (ofLab m) (ofLab g) false = some true := by
      simp only [curtilagelaw03_CheckTells.j1, enter_f t c g o n m (by omega) (by omega) (by omega) (by omega) (by omega) (by omega), q8, hides_f ft fn (by omega) (by omega), q9, cats_f (hidesB t n) (hidesB t n) (by omega) 9998 (by omega), awake_f, Option.bind_some]
      simp
    have h0 : curtilagelaw03_CheckTells.j0 10000 (ofLab t) (ofLab c) (ofLab o) (ofLab n) (ofLab m) (ofLab g) false = some true := by
      simp only [curtilagelaw03_CheckTells.j0, spawn_f t c n m (by omega) (by omega) (by omega) (by omega), q5, become_f t c n (by omega) (by omega) (by omega), q6, clear_f t c n (by omega) (by omega) (by omega), q7, Option.bind_some, bne_self_eq_false]
      simpa using h1
    simp only [observe_f t o (by omega) (by omega), q1, modify_f t o (by omega) (by omega), q2, place_f t o fo (by omega) (by omega) 10000 (by omega), q3, create_f t c o (by omega) (by omega) (by omega), q4, Option.bind_some, bne_self_eq_false]
    simpa using h0
  · rw [if_neg hf, awake_f]; rfl
end Go.Proofs.Ytkajfadhlgmcjaa.PC
