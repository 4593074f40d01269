import Derived.Test.YteibeoipnjhicaaGreatRz1
import Derived.Test.YteibeoipnjhicaaGreatSrw
import Derived.Test.YteibeoipnjhicaaGreatProg
import Derived.Lib.Hide
import Derived.Test.YteibeoipnjhicaaGreatCsl
section
namespace Go.Proofs.YteibeoipnjhicaaGreat
open Go Go.RowKit
set_option linter.unusedVariables false
set_option linter.unusedSimpArgs false
set_option maxHeartbeats 4000000
--BEGIN
def OneM (m : Mp) : Prop := 0 ≤ m.va ∧ m.va < 1048576 ∧ 0 ≤ m.off ∧ m.off < 1048576 ∧ 1 ≤ m.n ∧ m.n ≤ 1048576 - m.va ∧ m.n ≤ 1048576 - m.off
theorem mapOne_iff (m : Mp) : mapOne m = true ↔ OneM m := by
  unfold mapOne OneM
  simp only [Bool.and_eq_true, decide_eq_true_eq]
  constructor
  · rintro ⟨h1, h2, h3, h4, h5, h6, h7, h8⟩
    rw [IntKind.wrap_i64] at h7 h8
    omega
  · rintro ⟨h1, h2, h3, h4, h5, h6, h7⟩
    rw [IntKind.wrap_i64, IntKind.wrap_i64]
    omega
structure FitM (l : List Mp) : Prop where
  len : l.length ≤ 16
  one : ∀ x ∈ l, OneM x
  dj : l.Pairwise fun x y => x.va + x.n ≤ y.va
theorem mapFit_iff (l : List Mp) : mapFit l = true ↔ FitM l := by
  unfold mapFit
  simp only [Bool.and_eq_true, decide_eq_true_eq, allB_iff]
  constructor
  · rintro ⟨h1, h2⟩
    have ho : ∀ i (hi : i < l.length), OneM l[i] := fun i hi => by
      have := h2 i hi
      unfold mapAt at this
      rw [List.getElem?_eq_getElem hi] at this
      simp only [Bool.and_eq_true] at this
      exact (mapOne_iff _).1 this.1
    have hs : ∀ i (hi : i + 1 < l.length), l[i].va + l[i].n ≤ l[i + 1].va := fun i hi => by
      have := h2 (i + 1) hi
      unfold mapAt at this
      rw [List.getElem?_eq_getElem hi] at this
      simp only [Bool.and_eq_true] at this
      have h3 := this.2
      rw [List.getElem?_eq_getElem (by omega : i < l.length)] at h3
      simp only [Bool.not_eq_true', decide_eq_false_iff_not] at h3
      have := ho i (by omega)
      unfold OneM at this
      rw [IntKind.wrap_i64] at h3
      omega
    refine ⟨h1, fun x hx => ?_, ?_⟩
    · obtain ⟨i, hi, rfl⟩ := List.getElem_of_mem hx
      exact ho i hi
    · rw [List.pairwise_iff_getElem]
      intro i j hi hj hij
      induction j with
      | zero => omega
      | succ j ih =>
        rcases Nat.lt_or_ge i j with h | h
        · have a1 := ih (by omega) h
          have a2 := hs j hj
          have a3 := ho j (by omega)
          unfold OneM at a3
          omega
        · obtain rfl : i = j := by omega
          exact hs i hj
  · intro h
    refine ⟨h.len, fun j hj => ?_⟩
    unfold mapAt
    rw [List.getElem?_eq_getElem hj]
    simp only [Bool.and_eq_true]
    refine ⟨(mapOne_iff _).2 (h.one _ (List.getElem_mem hj)), ?_⟩
    cases j with
    | zero => rfl
    | succ j =>
      simp only
      rw [List.getElem?_eq_getElem (by omega : j < l.length)]
      simp only [Bool.not_eq_true', decide_eq_false_iff_not]
      have a1 := (List.pairwise_iff_getElem.1 h.dj) j (j + 1) (by omega) hj (by omega)
      have a2 := h.one _ (List.getElem_mem (by omega : j < l.length))
      unfold OneM at a2
      rw [IntKind.wrap_i64]
      omega
def inM (page : Int) (x : Mp) : Bool := decide (page ≥ x.va) && decide (page < x.va + x.n)
def FM (l : List Mp) (page : Int) : Option Mp := l.find? (inM page)
def posE (l : List Mp) (n : Int) : Nat := (l.takeWhile (fun x => decide (x.va + x.n < n))).length
def findM (l : List Mp) (page : Int) : Mp × Int × Bool := match FM l page with
  | some x => (x, x.off + page - x.va, true)
  | none => (Mp.zero, 0, false)
theorem pos_app {p : Mp → Bool} {A B : List Mp} (hA : ∀ x ∈ A, p x = true) (hB : ∀ x, B[0]? = some x → p x = false) : ((A ++ B).takeWhile p).length = A.length := by
  have : (A ++ B).takeWhile p = A := by
    rw [List.takeWhile_append_of_pos hA]
    cases B with
    | nil => simp
    | cons b B => rw [List.takeWhile_cons, if_neg (by rw [hB b rfl]; simp), List.append_nil]
  rw [this]
section
variable {l A B : List Mp} {m : Mp}
end
theorem fit_ones {l : List Mp} (h : FitM l) : ∀ x ∈ l, 1 ≤ x.n := fun x hx => (h.one x hx).2.2.2.2.1
/-- The pages that end behind a page: the first of them has it, or none. -/
theorem find_pos {l : List Mp} (h : FitM l) (page : Int) : (match l[posE l (page + 1)]? with
    | some x => if inM page x = true then some x else none
    | none => none) = FM l page := by
  have hd := h.dj
  have ho := fit_ones h
  clear h
  unfold FM posE
  induction l with
  | nil => rfl
  | cons a l ih =>
    rw [List.pairwise_cons] at hd
    have ih := ih hd.2 (fun x hx => ho x (by simp [hx]))
    have ha := ho a (by simp)
    rw [List.takeWhile_cons, List.find?_cons]
    by_cases he : a.va + a.n < page + 1
    · rw [if_pos (decide_eq_true he), List.length_cons, List.getElem?_cons_succ, ih]
      have : inM page a = false := by unfold inM; rw [Bool.and_eq_false_iff]; exact .inr (decide_eq_false (by omega))
      rw [this]
    · rw [if_neg (by simpa using he), List.length_nil, List.getElem?_cons_zero]
      simp only
      by_cases hi : inM page a = true
      · rw [if_pos hi, hi]
      · have hi' : inM page a = false := by simpa using hi
        rw [if_neg hi, hi']
        simp only
        symm
        rw [List.find?_eq_none]
        intro x hx
        have := hd.1 x hx
        unfold inM at hi ⊢
        simp only [Bool.and_eq_true, decide_eq_true_eq] at hi ⊢
        omega
--END
end Go.Proofs.YteibeoipnjhicaaGreat
end

section
namespace Go.Proofs.YteibeoipnjhicaaGreat
open Go Go.RowKit Go.Shelf
set_option linter.unusedVariables false
set_option linter.unusedSimpArgs false
end Go.Proofs.YteibeoipnjhicaaGreat
end

section
namespace Go.Proofs.YteibeoipnjhicaaGreat
open Go Go.RowKit
set_option linter.unusedVariables false
set_option linter.unusedSimpArgs false
set_option maxHeartbeats 16000000
set_option maxRecDepth 100000
def posF (f : Mp → Int) (l : List Mp) (n : Int) : Nat := (l.takeWhile (fun x => decide (f x < n))).length
theorem posF_le (f : Mp → Int) (l : List Mp) (n : Int) : posF f l n ≤ l.length := List.Sublist.length_le (List.takeWhile_sublist _)
theorem posF_spot {f : Mp → Int} {l : List Mp} {n : Int} {k : Nat} (hk : k ≤ l.length) (h1 : ∀ i, i < k → ∀ x, l[i]? = some x → f x < n) (h2 : ∀ x, l[k]? = some x → ¬ f x < n) : posF f l n = k := by
  unfold posF
  have e : l = l.take k ++ l.drop k := (List.take_append_drop k l).symm
  rw [e]
  have := pos_app (p := fun x => decide (f x < n)) (A := l.take k) (B := l.drop k) (fun x hx => by
    obtain ⟨i, hi⟩ := List.getElem?_of_mem hx
    rw [List.getElem?_take] at hi
    split at hi
    · rename_i hik; exact decide_eq_true (h1 i hik x hi)
    · cases hi) (fun x hx => by
    rw [List.getElem?_drop, Nat.add_zero] at hx
    exact decide_eq_false (h2 x hx))
  rw [this, List.length_take, Nat.min_eq_left hk]
def MonF (f : Mp → Int) (l : List Mp) : Prop := ∀ (i j : Nat) (x y : Mp), l[i]? = some x → l[j]? = some y → i < j → f x ≤ f y
def H2 (a b : List PV) : Heap := hset (hset (fun _ => none) 0 (some (.box a))) 1 (some (.box b))
theorem H2_eq (a b : List PV) : H2 a b = q2u [(0, .box a), (1, .box b)] := by
  funext i
  unfold H2 hset
  rw [q4q, q4q]
  by_cases h1 : i = 1
  · subst h1; rfl
  · by_cases h0 : i = 0
    · subst h0; rfl
    · rw [if_neg h1, if_neg h0, if_neg h0, if_neg h1]; rfl
section
variable {a b : List PV}
theorem g2_1 : ∀ i, 2 ≤ i → q2u [(0, HE.box a), (1, HE.box b)] i = none := fun i hi => by rw [q4q, q4q, if_neg (by omega), if_neg (by omega)]; rfl
theorem g2_2 (ha : ∀ S, BdL S a) (hb : ∀ S, BdL S b) : ∀ i k, q2u [(0, HE.box a), (1, HE.box b)] i = some (.box k) → ∀ p ∈ k, Bd (LV (q2u [(0, HE.box a), (1, HE.box b)])) p := fun i k h => by
  rw [q4q] at h
  split at h
  · cases h; exact ha _
  · rw [q4q] at h
    split at h
    · cases h; exact hb _
    · cases h
theorem g2_3 : ∀ i e sz els, q2u [(0, HE.box a), (1, HE.box b)] i ≠ some (.row e sz els) := fun i e sz els h => by
  rw [q4q] at h
  split at h
  · cases h
  · rw [q4q] at h
    split at h <;> cases h
theorem g2_lv1 : LV (q2u [(0, HE.box a), (1, HE.box b)]) 1 := by simp only [go_sem]
end
theorem keepK_j {m0 : Nat} {G : List (Nat × HE)} {env : Env} {H : Heap} {E : List (Nat × PV)} (h1 : ∀ i, i < m0 → H i = q2u G i) (h2 : KE (LV (q2u G)) env E) : q4g m0 G env H E := ⟨h1, h2⟩
theorem half_add {i j n : Nat} (h1 : i ≤ n) (h2 : j ≤ n) (h3 : n ≤ 1000000) : IntKind.i64.wrap ((i : Int) + (j : Int)) = ((i + j : Nat) : Int) ∧ IntKind.i64.wrap (((i + j : Nat) : Int).tdiv 2) = (((i + j) / 2 : Nat) : Int) := by
  refine ⟨by rw [IntKind.wrap_i64]; omega, ?_⟩
  have : ((i + j : Nat) : Int).tdiv 2 = (((i + j) / 2 : Nat) : Int) := (Int.ofNat_tdiv (i + j) 2).symm
  rw [this, IntKind.wrap_i64]; omega
attribute [local irreducible] q0x dr q0g Ex.then Ex.inBlock retQ q1x q3g q3e Pure CSat evOp q2o rdOf upd hset strip sp0 cut envL q2u q4j Keep BdL evBs q3m q4g
theorem at_csat {a b : List PV} (ha : ∀ S, BdL S a) (hb : ∀ S, BdL S b) (g : FuncId) (hg : q4e Tryz.prog g = true) (f : Mp → Int) (l : List Mp) (n : Int) (hl : l.length ≤ 1000000) (hs : MonF f l)
    (hf : ∀ x ∈ l, CSat Tryz.prog g [.agg (Mp.enc x), .ptr 1 0] (q2u [(0, .box a), (1, .box b)]) 2 (fun out H' m' => out = .ret (.int .i64 (f x)) ∧ 2 ≤ m' ∧ ∀ i, i < 2 → H' i = q2u [(0, .box a), (1, .box b)] i)) :
    CSat Tryz.prog 226 [.sl (l.map Mp.enc), .int .i64 n, .fn (.func g) [] [.ptr 1 0]] (q2u [(0, .box a), (1, .box b)]) 2 (fun out H' m' => out = .ret (.int .i64 (posF f l n)) ∧ H' = q2u [(0, .box a), (1, .box b)] ∧ m' = 2) := by
  refine csatI (by kernel_rfl) Tryz.func226 Tryz.results226 rfl (by simp [Tryz.ntmps226]) (by kernel_rfl) ?_
  repeat' (first | (show q0x ..; first | refine q0d ?_ | refine q0p rfl ?_) | (show q1d ..; first | refine q0n rfl rfl ?_ | refine q0h rfl ?_) | (show goOn ..; first | refine q0s ?_ | refine q0v ?_ | refine q0w ?_) | (show q1g ..; refine q0i ?_) | (show q0g ..; first | refine q0q ?_ | refine q0c ?_ | refine q0r ?_ | refine q0f ?_ | refine q0t ?_ | refine q1b ?_ | refine q0k ?_) | (show q0y ..; first | refine cd_t ?_ | refine cd_f ?_ | refine cd_n (fun _ => ?_) (fun _ => ?_) | refine cd_b (fun _ => ?_) (fun _ => ?_)) | refine q0a ?_ | refine q0m ?_ | refine q0l ?_ | refine q1a ?_ | refine q0j ?_ | refine q1c ?_ | refine bl_pass rfl ?_ | refine q1f ?_ | refine bl_pan ?_ | (show retQ ..; first | refine q0o ?_ | refine q0b ?_) | refine q0e ?_)
  have hLV := g2_lv1 (a := a) (b := b)
  refine pc_loopK (S := Nat × Nat) [(0, .box a), (1, .box b)] g2_1 (g2_2 ha hb) g2_3 (fun s => s.2 - s.1) (fun s => s.1 ≤ s.2 ∧ s.2 ≤ l.length ∧ (∀ k, k < s.1 → ∀ x, l[k]? = some x → f x < n) ∧ (∀ k, s.2 ≤ k → ∀ x, l[k]? = some x → ¬ f x < n)) (fun s => [(0, .sl (l.map Mp.enc)), (1, .int .i64 n), (2, .fn (.func g) [] [.ptr 1 0]), (7, .int .i64 s.1), (8, .int .i64 s.2)]) (0, l.length) ⟨Nat.zero_le _, Nat.le_refl _, fun k hk => absurd hk (Nat.not_lt_zero k), fun k hk x hx => absurd (q4t hx) (by simp only at hk; omega)⟩ (Nat.le_refl _) (keepK_j (fun i _ => rfl) (by (repeat' (first | exact q2a | refine q1i (by (try simp only [go_sem, *]); try rfl) (by simp only [go_sem, *]) ?_)))) ?_
  rintro ⟨i, j⟩ ⟨hij, hj, h1, h2⟩
  simp only at hij hj h1 h2
  rcases Nat.lt_or_ge i j with hlt | hge
  · obtain ⟨x, hx⟩ := q3d (by omega : (i + j) / 2 < l.length)
    have h0 := q3k hlt
    obtain ⟨e1, e2⟩ := half_add (by omega : i ≤ l.length) hj hl
    have e4 := q3f ((i + j) / 2) (by omega)
    have hfx := hf x (List.mem_of_getElem? hx)
    repeat' (first | (show q0x ..; first | refine q0d ?_ | refine q0p rfl ?_) | (show q1d ..; first | refine q0n rfl rfl ?_ | refine q0h rfl ?_) | (show goOn ..; first | refine q0s ?_ | refine q0v ?_ | refine q0w ?_) | (show q1g ..; refine q0i ?_) | (show q0g ..; first | refine q0q ?_ | refine q0c ?_ | refine q0r ?_ | refine q0f ?_ | refine q0t ?_ | refine q1b ?_ | refine q0k ?_) | (show q0y ..; first | refine cd_t ?_ | refine cd_f ?_ | refine cd_n (fun _ => ?_) (fun _ => ?_) | refine cd_b (fun _ => ?_) (fun _ => ?_)) | refine q0a ?_ | refine q0m ?_ | refine q0l ?_ | refine q1a ?_ | refine q0j ?_ | refine q1c ?_ | refine bl_pass rfl ?_ | refine q1f ?_ | refine bl_pan ?_ | (show retQ ..; first | refine q0o ?_ | refine q0b ?_) | refine q0e ?_)
    refine q2m hg hfx ?_ ?_
    case refine_2 => rintro p H' m' ⟨h, _⟩; cases h
    rintro r H' m' ⟨h, hm', hH'⟩
    cases h
    clear hfx
    repeat' (first | (show q0x ..; first | refine q0d ?_ | refine q0p rfl ?_) | (show q1d ..; first | refine q0n rfl rfl ?_ | refine q0h rfl ?_) | (show goOn ..; first | refine q0s ?_ | refine q0v ?_ | refine q0w ?_) | (show q1g ..; refine q0i ?_) | (show q0g ..; first | refine q0q ?_ | refine q0c ?_ | refine q0r ?_ | refine q0f ?_ | refine q0t ?_ | refine q1b ?_ | refine q0k ?_) | (show q0y ..; first | refine cd_t ?_ | refine cd_f ?_ | refine cd_n (fun _ => ?_) (fun _ => ?_) | refine cd_b (fun _ => ?_) (fun _ => ?_)) | refine q0a ?_ | refine q0m ?_ | refine q0l ?_ | refine q1a ?_ | refine q0j ?_ | refine q1c ?_ | refine bl_pass rfl ?_ | refine q1f ?_ | refine bl_pan ?_ | (show retQ ..; first | refine q0o ?_ | refine q0b ?_) | refine q0e ?_)
    all_goals rename_i hc
    · refine againK ((i + j) / 2 + 1, j) ⟨by simp only; omega, hj, fun k hk y hy => ?_, h2⟩ (by simp only; omega) hm' hH' (by (repeat' (first | exact q2a | refine q1i (by (try simp only [go_sem, *]); try rfl) (by simp only [go_sem, *]) ?_)))
      simp only at hk
      rcases Nat.lt_or_ge k ((i + j) / 2) with h | h
      · have := hs k _ y x hy hx h; have := of_decide_eq_true hc; omega
      · obtain rfl : k = (i + j) / 2 := by omega
        rw [hx] at hy; cases hy; exact of_decide_eq_true hc
    · refine againK (i, (i + j) / 2) ⟨by simp only; omega, by simp only; omega, h1, fun k hk y hy => ?_⟩ (by simp only; omega) hm' hH' (by (repeat' (first | exact q2a | refine q1i (by (try simp only [go_sem, *]); try rfl) (by simp only [go_sem, *]) ?_)))
      simp only at hk
      have hc' := of_decide_eq_false hc
      rcases Nat.lt_or_ge ((i + j) / 2) k with h | h
      · have := hs _ k x y hx hy h; omega
      · obtain rfl : k = (i + j) / 2 := by omega
        rw [hx] at hy; cases hy; exact hc'
  · obtain rfl : i = j := by omega
    have h0 := q3a hge
    have hp := posF_spot (f := f) hj h1 (h2 i (Nat.le_refl _))
    repeat' (first | (show q0x ..; first | refine q0d ?_ | refine q0p rfl ?_) | (show q1d ..; first | refine q0n rfl rfl ?_ | refine q0h rfl ?_) | (show goOn ..; first | refine q0s ?_ | refine q0v ?_ | refine q0w ?_) | (show q1g ..; refine q0i ?_) | (show q0g ..; first | refine q0q ?_ | refine q0c ?_ | refine q0r ?_ | refine q0f ?_ | refine q0t ?_ | refine q1b ?_ | refine q0k ?_) | (show q0y ..; first | refine cd_t ?_ | refine cd_f ?_ | refine cd_n (fun _ => ?_) (fun _ => ?_) | refine cd_b (fun _ => ?_) (fun _ => ?_)) | refine q0a ?_ | refine q0m ?_ | refine q0l ?_ | refine q1a ?_ | refine q0j ?_ | refine q1c ?_ | refine bl_pass rfl ?_ | refine q1f ?_ | refine bl_pan ?_ | (show retQ ..; first | refine q0o ?_ | refine q0b ?_) | refine q0e ?_)
    all_goals (rw [hp]; exact ⟨rfl, rfl, rfl⟩)
end Go.Proofs.YteibeoipnjhicaaGreat
end

section
namespace Go.Proofs.YteibeoipnjhicaaGreat
open Go Go.RowKit
set_option linter.unusedVariables false
set_option linter.unusedSimpArgs false
set_option maxHeartbeats 16000000
set_option maxRecDepth 100000
attribute [go_sem] q2p
theorem fit_end {l : List Mp} (h : FitM l) : MonF (fun x => x.va + x.n) l := fun i j x y hx hy hij => by
  have := List.pairwise_iff_getElem.1 h.dj i j (q4t hx) (q4t hy) hij
  rw [(List.getElem?_eq_some_iff.1 hx).2, (List.getElem?_eq_some_iff.1 hy).2] at this
  have := h.one y (List.mem_of_getElem? hy)
  unfold OneM at this
  show x.va + x.n ≤ y.va + y.n
  omega
theorem one_wrap {m : Mp} (h : OneM m) : IntKind.i64.wrap (m.va + m.n) = m.va + m.n := by unfold OneM at h; rw [IntKind.wrap_i64]; omega
theorem one_has {m : Mp} (h : OneM m) (p : Int) : has m p = inM p m := by unfold has inM; rw [one_wrap h]
@[go_sem] theorem cut_fn (v : PV) : cut Tryz.prog 250 [v] 0 = some v := by kernel_rfl
attribute [local irreducible] q0x dr q0g Ex.then Ex.inBlock retQ q1x q3g q3e Pure CSat evOp q2o rdOf upd hset strip sp0 cut envL q2u q4j Keep BdL evBs q3m q4g
theorem ends1 (a : List PV) (x : Mp) : CSat Tryz.prog 262 [.agg (Mp.enc x), .ptr 1 0] (q2u [(0, .box a), (1, .box [.fn (.func 228) [] []])]) 2 (fun out H' m' => out = .ret (.int .i64 (IntKind.i64.wrap (x.va + x.n))) ∧ 2 ≤ m' ∧ ∀ i, i < 2 → H' i = q2u [(0, .box a), (1, .box [.fn (.func 228) [] []])] i) := by
  refine csatI (by kernel_rfl) Tryz.func262 Tryz.results262 rfl (by simp [Tryz.ntmps262]) (by kernel_rfl) ?_
  repeat' (first | (show q0x ..; first | refine q0d ?_ | refine q0p rfl ?_) | (show q1d ..; first | refine q0n rfl rfl ?_ | refine q0h rfl ?_) | (show goOn ..; first | refine q0s ?_ | refine q0v ?_ | refine q0w ?_) | (show q1g ..; refine q0i ?_) | (show q1j ..; (refine q0u (r := ?_) ?_ ?_; rotate_left 1; (focus exact pages_end _))) | (show q0g ..; first | refine q0q ?_ | refine q0c ?_ | refine q0r ?_ | refine q0f ?_) | refine q0a ?_ | refine q0m ?_ | refine q0l ?_ | (show retQ ..; first | refine q0o ?_ | refine q0b ?_) | refine q0e ?_)
  refine ⟨rfl, by omega, fun i hi => q2g _ _ (by omega)⟩
theorem ends_csat (H : Heap) (m : Nat) : CSat Tryz.prog 227 [.fn (.func 228) [] []] H m (fun out H' m' => out = .ret (.fn (.func 262) [] [.ptr m 0]) ∧ H' = hset H m (some (.box [.fn (.func 228) [] []])) ∧ m' = m + 1) := by
  refine csatI (by kernel_rfl) Tryz.func227 Tryz.results227 rfl (by simp [Tryz.ntmps227]) (by kernel_rfl) ?_
  repeat' (first | (show q0x ..; first | refine q0d ?_ | refine q0p rfl ?_) | (show q1d ..; refine q0n rfl rfl ?_) | (show goOn ..; first | refine q0s ?_ | refine q0v ?_) | (show q0g ..; first | refine q0q ?_ | refine q0c ?_ | refine q0r ?_ | refine q0f ?_) | refine q0a ?_ | refine q0m ?_ | refine q0l ?_ | (show retQ ..; first | refine q0o ?_ | refine q0b ?_) | refine q0e ?_)
  exact ⟨rfl, rfl, rfl⟩
theorem findM_eq {l : List Mp} (h : FitM l) (page : Int) : findM l page = (match l[posF (fun x => x.va + x.n) l (page + 1)]? with
    | some x => if inM page x = true then (x, x.off + page - x.va, true) else (Mp.zero, 0, false)
    | none => (Mp.zero, 0, false)) := by
  have e : posF (fun x => x.va + x.n) l (page + 1) = posE l (page + 1) := rfl
  rw [e]
  unfold findM
  rw [← find_pos h page]
  cases l[posE l (page + 1)]? with
  | none => rfl
  | some x =>
    simp only
    by_cases hi : inM page x = true
    · rw [if_pos hi, if_pos hi]
    · rw [if_neg hi, if_neg hi]
theorem pages_find (l : List Mp) (page : Int) (h : FitM l) (hp : I page) : Pure Tryz.prog 180 [.sl (l.map Mp.enc), .int .i64 page] (.tup [.agg (Mp.enc (findM l page).1), .int .i64 (findM l page).2.1, .bool (findM l page).2.2]) := by
  have hl : l.length ≤ 1000000 := Nat.le_trans h.len (by decide)
  have hmon := fit_end h
  have hE : ∀ S, BdL S [PV.fn (.func 228) [] []] := fun S => by simp only [go_sem]
  have hZ : ∀ S, BdL S (Mp.enc Mp.zero) := fun S => by simp only [go_sem]
  have hat := at_csat hZ hE 262 (by kernel_rfl) (fun x => x.va + x.n) l (page + 1) hl hmon (fun x hx => by
    have := ends1 (Mp.enc Mp.zero) x
    rw [one_wrap (h.one x hx)] at this
    exact this)
  have hfm := findM_eq h page
  have hle := posF_le (fun x => x.va + x.n) l (page + 1)
  generalize hk : posF (fun x => x.va + x.n) l (page + 1) = k at hat hfm hle
  clear hk hmon
  unfold I at hp
  have hmin : IntKind.i64.min = -9223372036854775808 := rfl
  have hmax : IntKind.i64.max = 9223372036854775807 := rfl
  rw [hmin, hmax] at hp
  have fin : ∀ r, findM l page = r → Pure Tryz.prog 180 [.sl (l.map Mp.enc), .int .i64 page] (.tup [.agg (Mp.enc r.1), .int .i64 r.2.1, .bool r.2.2]) := by
    intro r hr
    rw [hr] at hfm
    cases hpm : decide (page ≥ 1048576) with
    | true =>
      have hpm' := of_decide_eq_true hpm
      have : r = (Mp.zero, 0, false) := by
        rw [hfm]
        cases hlk : l[k]? with
        | none => rfl
        | some x =>
          have := h.one x (List.mem_of_getElem? hlk)
          unfold OneM at this
          simp only
          rw [if_neg]
          unfold inM
          simp only [Bool.and_eq_true, decide_eq_true_eq]
          omega
      subst this
      clear hfm hr hat
      refine q2i (by kernel_rfl) (by simp only [go_sem, *]) (by simp only [go_sem, *]) Tryz.func180 Tryz.results180 rfl (by simp [Tryz.ntmps180]) (by kernel_rfl) ?_
      repeat' (first | (show q0x ..; first | refine q0d ?_ | refine q0p rfl ?_ | refine q0z rfl rfl ?_) | (show q1d ..; first | refine q0n rfl rfl ?_ | refine q0h rfl ?_) | (show goOn ..; first | refine q0s ?_ | refine q0v ?_ | refine q0w ?_) | (show q1g ..; refine q0i ?_) | (show wGo ..; first | refine q1o ?_ | refine q1u ?_ | refine q1q ?_ | refine q1s ?_ | refine gw_u ?_ | refine q1p (fun _ => ?_) (fun _ => ?_) | refine q1t (fun _ => ?_) (fun _ => ?_) | refine q1r (fun _ => ?_) (fun _ => ?_) | refine q1v (fun _ => ?_) (fun _ => ?_)) | (show dr ..; first | refine q1k ?_ | refine dr_n rfl ?_ | refine q3b rfl rfl ?_) | (show drGo ..; first | refine q2h rfl ?_ | refine q1n rfl ?_) | (show drOn ..; first | refine q1l ?_ | refine q1z ?_ | refine q1y ?_) | (show q1w ..; refine q1e ?_) | (refine And.intro (by kernel_rfl : q1x _ = true) ?_) | (show q0g ..; first | refine q0q ?_ | refine q0c ?_ | refine q1h (by kernel_rfl) ?_ | refine q0r ?_ | refine q0f ?_ | refine q0k ?_) | (show q0y ..; first | refine cd_t ?_ | refine cd_f ?_ | refine cd_n (fun _ => ?_) (fun _ => ?_) | refine cd_b (fun _ => ?_) (fun _ => ?_)) | refine q0a ?_ | refine q0m ?_ | refine q0l ?_ | (show retQ ..; first | refine q0o ?_ | refine q0b ?_) | refine q0e ?_)
      all_goals rfl
    | false =>
      have hpm' := of_decide_eq_false hpm
      have e1 : IntKind.i64.wrap (page + 1) = page + 1 := by rw [IntKind.wrap_i64]; omega
      refine q2i (by kernel_rfl) (by simp only [go_sem, *]) (by simp only [go_sem, *]) Tryz.func180 Tryz.results180 rfl (by simp [Tryz.ntmps180]) (by kernel_rfl) ?_
      repeat' (first | (show q0x ..; first | refine q0d ?_ | refine q0p rfl ?_ | refine q0z rfl rfl ?_) | (show q1d ..; first | refine q0n rfl rfl ?_ | refine q0h rfl ?_) | (show goOn ..; first | refine q0s ?_ | refine q0v ?_ | refine q0w ?_) | (show q1g ..; refine q0i ?_) | (show wGo ..; first | refine q1o ?_ | refine q1u ?_ | refine q1q ?_ | refine q1s ?_ | refine gw_u ?_ | refine q1p (fun _ => ?_) (fun _ => ?_) | refine q1t (fun _ => ?_) (fun _ => ?_) | refine q1r (fun _ => ?_) (fun _ => ?_) | refine q1v (fun _ => ?_) (fun _ => ?_)) | (show dr ..; first | refine q1k ?_ | refine dr_n rfl ?_ | refine q3b rfl rfl ?_) | (show drGo ..; first | refine q2h rfl ?_ | refine q1n rfl ?_) | (show drOn ..; first | refine q1l ?_ | refine q1z ?_ | refine q1y ?_) | (show q1w ..; refine q1e ?_) | (refine And.intro (by kernel_rfl : q1x _ = true) ?_) | (show q0g ..; first | refine q0q ?_ | refine q0c ?_ | refine q1h (by kernel_rfl) ?_ | refine q0r ?_ | refine q0f ?_ | refine q0k ?_) | (show q0y ..; first | refine cd_t ?_ | refine cd_f ?_ | refine cd_n (fun _ => ?_) (fun _ => ?_) | refine cd_b (fun _ => ?_) (fun _ => ?_)) | refine q0a ?_ | refine q0m ?_ | refine q0l ?_ | (show retQ ..; first | refine q0o ?_ | refine q0b ?_) | refine q0e ?_)
      (refine q2m (by kernel_rfl) (ends_csat _ _) ?_ ?_)
      case refine_2 => rintro p H' m' ⟨h, _⟩; cases h
      rintro r' H' m' ⟨h', rfl, rfl⟩
      cases h'
      repeat' (first | (show q0x ..; first | refine q0d ?_ | refine q0p rfl ?_ | refine q0z rfl rfl ?_) | (show q1d ..; first | refine q0n rfl rfl ?_ | refine q0h rfl ?_) | (show goOn ..; first | refine q0s ?_ | refine q0v ?_ | refine q0w ?_) | (show q1g ..; refine q0i ?_) | (show wGo ..; first | refine q1o ?_ | refine q1u ?_ | refine q1q ?_ | refine q1s ?_ | refine gw_u ?_ | refine q1p (fun _ => ?_) (fun _ => ?_) | refine q1t (fun _ => ?_) (fun _ => ?_) | refine q1r (fun _ => ?_) (fun _ => ?_) | refine q1v (fun _ => ?_) (fun _ => ?_)) | (show dr ..; first | refine q1k ?_ | refine dr_n rfl ?_ | refine q3b rfl rfl ?_) | (show drGo ..; first | refine q2h rfl ?_ | refine q1n rfl ?_) | (show drOn ..; first | refine q1l ?_ | refine q1z ?_ | refine q1y ?_) | (show q1w ..; refine q1e ?_) | (refine And.intro (by kernel_rfl : q1x _ = true) ?_) | (show q0g ..; first | refine q0q ?_ | refine q0c ?_ | refine q1h (by kernel_rfl) ?_ | refine q0r ?_ | refine q0f ?_ | refine q0k ?_) | (show q0y ..; first | refine cd_t ?_ | refine cd_f ?_ | refine cd_n (fun _ => ?_) (fun _ => ?_) | refine cd_b (fun _ => ?_) (fun _ => ?_)) | refine q0a ?_ | refine q0m ?_ | refine q0l ?_ | (show retQ ..; first | refine q0o ?_ | refine q0b ?_) | refine q0e ?_)
      have hat' := hat
      rw [← H2_eq] at hat'
      unfold H2 at hat'
      (refine q2m (by kernel_rfl) (hat') ?_ ?_)
      case refine_2 => rintro p H' m' ⟨h, _⟩; cases h
      rintro r' H' m' ⟨h', rfl, rfl⟩
      cases h'
      clear hat hat'
      cases hneg : decide (page < 0) with
      | true =>
        have : r = (Mp.zero, 0, false) := by
          rw [hfm]
          cases hlk : l[k]? with
          | none => rfl
          | some x =>
            have := h.one x (List.mem_of_getElem? hlk)
            have := of_decide_eq_true hneg
            unfold OneM at this
            simp only
            rw [if_neg]
            unfold inM
            simp only [Bool.and_eq_true, decide_eq_true_eq]
            have := h.one x (List.mem_of_getElem? hlk)
            unfold OneM at this
            omega
        subst this
        clear hfm hr
        repeat' (first | (show q0x ..; first | refine q0d ?_ | refine q0p rfl ?_ | refine q0z rfl rfl ?_) | (show q1d ..; first | refine q0n rfl rfl ?_ | refine q0h rfl ?_) | (show goOn ..; first | refine q0s ?_ | refine q0v ?_ | refine q0w ?_) | (show q1g ..; refine q0i ?_) | (show wGo ..; first | refine q1o ?_ | refine q1u ?_ | refine q1q ?_ | refine q1s ?_ | refine gw_u ?_ | refine q1p (fun _ => ?_) (fun _ => ?_) | refine q1t (fun _ => ?_) (fun _ => ?_) | refine q1r (fun _ => ?_) (fun _ => ?_) | refine q1v (fun _ => ?_) (fun _ => ?_)) | (show dr ..; first | refine q1k ?_ | refine dr_n rfl ?_ | refine q3b rfl rfl ?_) | (show drGo ..; first | refine q2h rfl ?_ | refine q1n rfl ?_) | (show drOn ..; first | refine q1l ?_ | refine q1z ?_ | refine q1y ?_) | (show q1w ..; refine q1e ?_) | (refine And.intro (by kernel_rfl : q1x _ = true) ?_) | (show q0g ..; first | refine q0q ?_ | refine q0c ?_ | refine q1h (by kernel_rfl) ?_ | refine q0r ?_ | refine q0f ?_ | refine q0k ?_) | (show q0y ..; first | refine cd_t ?_ | refine cd_f ?_ | refine cd_n (fun _ => ?_) (fun _ => ?_) | refine cd_b (fun _ => ?_) (fun _ => ?_)) | refine q0a ?_ | refine q0m ?_ | refine q0l ?_ | (show retQ ..; first | refine q0o ?_ | refine q0b ?_) | refine q0e ?_)
        all_goals rfl
      | false =>
        have hneg' := of_decide_eq_false hneg
        cases hlk : l[k]? with
        | none =>
          have hkl : k = l.length := by have := List.getElem?_eq_none_iff.1 hlk; omega
          rw [hlk] at hfm
          subst hfm
          have e2 : ((k : Int) == (l.length : Int)) = true := by simp [hkl]
          clear hr
          repeat' (first | (show q0x ..; first | refine q0d ?_ | refine q0p rfl ?_ | refine q0z rfl rfl ?_) | (show q1d ..; first | refine q0n rfl rfl ?_ | refine q0h rfl ?_) | (show goOn ..; first | refine q0s ?_ | refine q0v ?_ | refine q0w ?_) | (show q1g ..; refine q0i ?_) | (show wGo ..; first | refine q1o ?_ | refine q1u ?_ | refine q1q ?_ | refine q1s ?_ | refine gw_u ?_ | refine q1p (fun _ => ?_) (fun _ => ?_) | refine q1t (fun _ => ?_) (fun _ => ?_) | refine q1r (fun _ => ?_) (fun _ => ?_) | refine q1v (fun _ => ?_) (fun _ => ?_)) | (show dr ..; first | refine q1k ?_ | refine dr_n rfl ?_ | refine q3b rfl rfl ?_) | (show drGo ..; first | refine q2h rfl ?_ | refine q1n rfl ?_) | (show drOn ..; first | refine q1l ?_ | refine q1z ?_ | refine q1y ?_) | (show q1w ..; refine q1e ?_) | (refine And.intro (by kernel_rfl : q1x _ = true) ?_) | (show q0g ..; first | refine q0q ?_ | refine q0c ?_ | refine q1h (by kernel_rfl) ?_ | refine q0r ?_ | refine q0f ?_ | refine q0k ?_) | (show q0y ..; first | refine cd_t ?_ | refine cd_f ?_ | refine cd_n (fun _ => ?_) (fun _ => ?_) | refine cd_b (fun _ => ?_) (fun _ => ?_)) | refine q0a ?_ | refine q0m ?_ | refine q0l ?_ | (show retQ ..; first | refine q0o ?_ | refine q0b ?_) | refine q0e ?_)
          all_goals rfl
        | some x =>
          have hx1 := h.one x (List.mem_of_getElem? hlk)
          have e2 : ((k : Int) == (l.length : Int)) = false := by have := q4t hlk; simp; omega
          rw [hlk] at hfm
          simp only at hfm
          have e3 := one_has hx1 page
          have hx2 := hx1
          unfold OneM at hx1
          by_cases hi : inM page x = true
          · rw [if_pos hi] at hfm
            subst hfm
            have e4 : IntKind.i64.wrap (x.off + page) = x.off + page := by rw [IntKind.wrap_i64]; omega
            have e5 : IntKind.i64.wrap (x.off + page - x.va) = x.off + page - x.va := by rw [IntKind.wrap_i64]; omega
            rw [hi] at e3
            clear hr
            repeat' (first | (show q0x ..; first | refine q0d ?_ | refine q0p rfl ?_ | refine q0z rfl rfl ?_) | (show q1d ..; first | refine q0n rfl rfl ?_ | refine q0h rfl ?_) | (show goOn ..; first | refine q0s ?_ | refine q0v ?_ | refine q0w ?_) | (show q1g ..; refine q0i ?_) | (show q1j ..; (refine q0u (r := ?_) ?_ ?_; rotate_left 1; (focus exact pages_has _ _))) | (show wGo ..; first | refine q1o ?_ | refine q1u ?_ | refine q1q ?_ | refine q1s ?_ | refine gw_u ?_ | refine q1p (fun _ => ?_) (fun _ => ?_) | refine q1t (fun _ => ?_) (fun _ => ?_) | refine q1r (fun _ => ?_) (fun _ => ?_) | refine q1v (fun _ => ?_) (fun _ => ?_)) | (show dr ..; first | refine q1k ?_ | refine dr_n rfl ?_ | refine q3b rfl rfl ?_) | (show drGo ..; first | refine q2h rfl ?_ | refine q1n rfl ?_) | (show drOn ..; first | refine q1l ?_ | refine q1z ?_ | refine q1y ?_) | (show q1w ..; refine q1e ?_) | (show q2l ..; (refine q1m (r := ?_) ?_ ?_; rotate_left 1; (focus exact pages_has _ _))) | (refine And.intro (by kernel_rfl : q1x _ = true) ?_) | (show q0g ..; first | refine q0q ?_ | refine q0c ?_ | refine q1h (by kernel_rfl) ?_ | refine q0r ?_ | refine q0f ?_ | refine q0k ?_) | (show q0y ..; first | refine cd_t ?_ | refine cd_f ?_ | refine cd_n (fun _ => ?_) (fun _ => ?_) | refine cd_b (fun _ => ?_) (fun _ => ?_)) | refine q0a ?_ | refine q0m ?_ | refine q0l ?_ | (show retQ ..; first | refine q0o ?_ | refine q0b ?_) | refine q0e ?_)
            all_goals rfl
          · have hi' : inM page x = false := by simpa using hi
            rw [if_neg hi] at hfm
            subst hfm
            rw [hi'] at e3
            clear hr
            repeat' (first | (show q0x ..; first | refine q0d ?_ | refine q0p rfl ?_ | refine q0z rfl rfl ?_) | (show q1d ..; first | refine q0n rfl rfl ?_ | refine q0h rfl ?_) | (show goOn ..; first | refine q0s ?_ | refine q0v ?_ | refine q0w ?_) | (show q1g ..; refine q0i ?_) | (show q1j ..; (refine q0u (r := ?_) ?_ ?_; rotate_left 1; (focus exact pages_has _ _))) | (show wGo ..; first | refine q1o ?_ | refine q1u ?_ | refine q1q ?_ | refine q1s ?_ | refine gw_u ?_ | refine q1p (fun _ => ?_) (fun _ => ?_) | refine q1t (fun _ => ?_) (fun _ => ?_) | refine q1r (fun _ => ?_) (fun _ => ?_) | refine q1v (fun _ => ?_) (fun _ => ?_)) | (show dr ..; first | refine q1k ?_ | refine dr_n rfl ?_ | refine q3b rfl rfl ?_) | (show drGo ..; first | refine q2h rfl ?_ | refine q1n rfl ?_) | (show drOn ..; first | refine q1l ?_ | refine q1z ?_ | refine q1y ?_) | (show q1w ..; refine q1e ?_) | (show q2l ..; (refine q1m (r := ?_) ?_ ?_; rotate_left 1; (focus exact pages_has _ _))) | (refine And.intro (by kernel_rfl : q1x _ = true) ?_) | (show q0g ..; first | refine q0q ?_ | refine q0c ?_ | refine q1h (by kernel_rfl) ?_ | refine q0r ?_ | refine q0f ?_ | refine q0k ?_) | (show q0y ..; first | refine cd_t ?_ | refine cd_f ?_ | refine cd_n (fun _ => ?_) (fun _ => ?_) | refine cd_b (fun _ => ?_) (fun _ => ?_)) | refine q0a ?_ | refine q0m ?_ | refine q0l ?_ | (show retQ ..; first | refine q0o ?_ | refine q0b ?_) | refine q0e ?_)
            all_goals rfl
  exact fin _ rfl
end Go.Proofs.YteibeoipnjhicaaGreat
end

section
namespace Go.Proofs.YteibeoipnjhicaaGreat
open Go Go.RowKit
set_option linter.unusedVariables false
set_option linter.unusedSimpArgs false
set_option maxHeartbeats 16000000
set_option maxRecDepth 100000
attribute [go_sem] q2p
attribute [local irreducible] q0x dr q0g Ex.then Ex.inBlock retQ q1x q3g q3e Pure CSat evOp q2o rdOf upd hset strip sp0 cut envL q2u q4j Keep BdL evBs q3m q4g
end Go.Proofs.YteibeoipnjhicaaGreat
end

section
namespace Go.Proofs.YteibeoipnjhicaaGreat
open Go Go.RowKit
set_option linter.unusedVariables false
set_option linter.unusedSimpArgs false
set_option maxHeartbeats 16000000
set_option maxRecDepth 100000
attribute [go_sem] q2p
attribute [local go_sem] List.length_append
@[go_sem] theorem pne_1 (m : Nat) : (m = m + 1) = False := eq_false (by omega)
@[go_sem] theorem pne_2 (m : Nat) : (m + 1 = m) = False := eq_false (by omega)
@[go_sem] theorem pne_3 (m : Nat) : (0 = m + 1) = False := eq_false (by omega)
@[go_sem] theorem pne_4 (m : Nat) : (m + 1 = 0) = False := eq_false (by omega)
attribute [local irreducible] q0x dr q0g Ex.then Ex.inBlock retQ q1x q3g q3e Pure CSat evOp q2o rdOf upd hset strip sp0 cut envL q2u q4j Keep BdL evBs q3m q4g
end Go.Proofs.YteibeoipnjhicaaGreat
end

section
namespace Go.Proofs.YteibeoipnjhicaaGreat
open Go Go.RowKit
set_option linter.unusedVariables false
set_option linter.unusedSimpArgs false
set_option maxHeartbeats 16000000
set_option maxRecDepth 100000
attribute [go_sem] q2p
def splitN (k : Nat) : Int × Int × Bool := if 1048576 ≤ k / 16 then (0, 0, false) else (((k / 16 : Nat) : Int), ((k % 16 : Nat) : Int), true)
attribute [local irreducible] q0x dr q0g Ex.then Ex.inBlock retQ q1x q3g q3e Pure CSat evOp q2o rdOf upd hset strip sp0 cut envL q2u q4j Keep BdL evBs q3m q4g
theorem r12_find (l : List Mp) (page : Int) (h : FitM l) (hp : I page) : Pure Tryz.prog 83 [.sl (l.map Mp.enc), .int .i64 page] (.tup [.agg (Mp.enc (findM l page).1), .int .i64 (findM l page).2.1, .bool (findM l page).2.2]) := by
  have hl : l.length ≤ 1000000 := Nat.le_trans h.len (by decide)
  unfold I at hp
  have hmin : IntKind.i64.min = -9223372036854775808 := rfl
  have hmax : IntKind.i64.max = 9223372036854775807 := rfl
  rw [hmin, hmax] at hp
  refine q2i (by kernel_rfl) (by simp only [go_sem, *]) (by simp only [go_sem, *]) Tryz.func83 Tryz.results83 rfl (by simp [Tryz.ntmps83]) (by kernel_rfl) ?_
  repeat' (first | (show q0x ..; first | refine q0d ?_ | refine q0p rfl ?_ | refine q0z rfl rfl ?_) | (show q1d ..; refine q0n rfl rfl ?_) | (show goOn ..; first | refine q0s ?_ | refine q0v ?_ | refine q0w ?_) | (show q1g ..; refine q0i ?_) | (show wGo ..; first | refine q1o ?_ | refine q1u ?_ | refine q1q ?_ | refine q1s ?_ | refine gw_u ?_ | refine q1p (fun _ => ?_) (fun _ => ?_) | refine q1t (fun _ => ?_) (fun _ => ?_) | refine q1r (fun _ => ?_) (fun _ => ?_) | refine q1v (fun _ => ?_) (fun _ => ?_)) | (show dr ..; first | refine q1k ?_ | refine dr_n rfl ?_ | refine q3b rfl rfl ?_) | (show drGo ..; refine q2h rfl ?_) | (show drOn ..; first | refine q1l ?_ | refine q1z ?_ | refine q1y ?_) | (show q1w ..; refine q1e ?_) | (refine And.intro (by kernel_rfl : q1x _ = true) ?_) | (show q0g ..; first | refine q0q ?_ | refine q0c ?_ | refine q1h (by kernel_rfl) ?_ | refine q0r ?_ | refine q0f ?_ | refine q0t ?_ | refine q1b ?_ | refine q0k ?_) | (show q0y ..; first | refine cd_t ?_ | refine cd_f ?_ | refine cd_n (fun _ => ?_) (fun _ => ?_) | refine cd_b (fun _ => ?_) (fun _ => ?_)) | refine q0a ?_ | refine q0m ?_ | refine q0l ?_ | refine q1a ?_ | refine q0j ?_ | refine q1c ?_ | refine bl_pass rfl ?_ | refine q1f ?_ | refine bl_pan ?_ | (show retQ ..; first | refine q0o ?_ | refine q0b ?_) | refine q0e ?_)
  refine q3l (S := Nat) (fun n => l.length - n) (fun n => n ≤ l.length ∧ ∀ j, j < n → ∀ y, l[j]? = some y → inM page y = false) (fun n => [(0, .sl (l.map Mp.enc)), (1, .int .i64 page), (4, .ptr 0 0), (7, .int .i64 n)]) (fun _ => [(0, .box (Mp.enc Mp.zero))]) (fun _ => 1) 0 ⟨Nat.zero_le _, fun j hj => absurd hj (Nat.not_lt_zero j)⟩ (by (refine q2q ?_ ?_ <;> repeat' (first | exact q2a | exact q2c | refine q1i (by (try simp only [go_sem, *]); try rfl) (by simp only [go_sem, *]) ?_ | refine q2d (by (try simp only [go_sem, *]); try rfl) (by omega) (by simp only [go_sem, *]) ?_ | refine q2b (by (try simp only [go_sem, *]); try rfl) (by omega) (by simp only [go_sem, *]) ?_))) ?_
  rintro n ⟨hn, hs⟩
  rcases Nat.lt_or_ge n l.length with hlt | hge
  · obtain ⟨x, hx⟩ := q3d hlt
    have h0 := q3k hlt
    have h4 := q3f n (by omega)
    have hx1 := h.one x (List.mem_of_getElem? hx)
    have w1 := one_wrap hx1
    cases hi : inM page x with
    | true =>
      have hf : findM l page = (x, x.off + page - x.va, true) := by
        unfold findM FM
        rw [find_at (p := inM page) hx hi hs]
      rw [hf]
      have hi2 := hi
      unfold inM at hi2
      rw [Bool.and_eq_true] at hi2
      obtain ⟨c1, c2⟩ := hi2
      have d1 := of_decide_eq_true c1
      have d2 := of_decide_eq_true c2
      unfold OneM at hx1
      have e4 : IntKind.i64.wrap (x.off + page) = x.off + page := by rw [IntKind.wrap_i64]; omega
      have e5 : IntKind.i64.wrap (x.off + page - x.va) = x.off + page - x.va := by rw [IntKind.wrap_i64]; omega
      clear hs hf hi
      repeat' (first | (show q0x ..; first | refine q0d ?_ | refine q0p rfl ?_ | refine q0z rfl rfl ?_) | (show q1d ..; refine q0n rfl rfl ?_) | (show goOn ..; first | refine q0s ?_ | refine q0v ?_ | refine q0w ?_) | (show q1g ..; refine q0i ?_) | (show wGo ..; first | refine q1o ?_ | refine q1u ?_ | refine q1q ?_ | refine q1s ?_ | refine gw_u ?_ | refine q1p (fun _ => ?_) (fun _ => ?_) | refine q1t (fun _ => ?_) (fun _ => ?_) | refine q1r (fun _ => ?_) (fun _ => ?_) | refine q1v (fun _ => ?_) (fun _ => ?_)) | (show dr ..; first | refine q1k ?_ | refine dr_n rfl ?_ | refine q3b rfl rfl ?_) | (show drGo ..; refine q2h rfl ?_) | (show drOn ..; first | refine q1l ?_ | refine q1z ?_ | refine q1y ?_) | (show q1w ..; refine q1e ?_) | (refine And.intro (by kernel_rfl : q1x _ = true) ?_) | (show q0g ..; first | refine q0q ?_ | refine q0c ?_ | refine q1h (by kernel_rfl) ?_ | refine q0r ?_ | refine q0f ?_ | refine q0t ?_ | refine q1b ?_ | refine q0k ?_) | (show q0y ..; first | refine cd_t ?_ | refine cd_f ?_ | refine cd_n (fun _ => ?_) (fun _ => ?_) | refine cd_b (fun _ => ?_) (fun _ => ?_)) | refine q0a ?_ | refine q0m ?_ | refine q0l ?_ | refine q1a ?_ | refine q0j ?_ | refine q1c ?_ | refine bl_pass rfl ?_ | refine q1f ?_ | refine bl_pan ?_ | (show retQ ..; first | refine q0o ?_ | refine q0b ?_) | refine q0e ?_)
      all_goals rfl
    | false =>
      have hs' := none_to hx hs hi
      unfold inM at hi
      rw [Bool.and_eq_false_iff] at hi
      clear hs
      cases c1 : decide (page ≥ x.va) with
      | false =>
        clear hi
        repeat' (first | (show q0x ..; first | refine q0d ?_ | refine q0p rfl ?_ | refine q0z rfl rfl ?_) | (show q1d ..; refine q0n rfl rfl ?_) | (show goOn ..; first | refine q0s ?_ | refine q0v ?_ | refine q0w ?_) | (show q1g ..; refine q0i ?_) | (show wGo ..; first | refine q1o ?_ | refine q1u ?_ | refine q1q ?_ | refine q1s ?_ | refine gw_u ?_ | refine q1p (fun _ => ?_) (fun _ => ?_) | refine q1t (fun _ => ?_) (fun _ => ?_) | refine q1r (fun _ => ?_) (fun _ => ?_) | refine q1v (fun _ => ?_) (fun _ => ?_)) | (show dr ..; first | refine q1k ?_ | refine dr_n rfl ?_ | refine q3b rfl rfl ?_) | (show drGo ..; refine q2h rfl ?_) | (show drOn ..; first | refine q1l ?_ | refine q1z ?_ | refine q1y ?_) | (show q1w ..; refine q1e ?_) | (refine And.intro (by kernel_rfl : q1x _ = true) ?_) | (show q0g ..; first | refine q0q ?_ | refine q0c ?_ | refine q1h (by kernel_rfl) ?_ | refine q0r ?_ | refine q0f ?_ | refine q0t ?_ | refine q1b ?_ | refine q0k ?_) | (show q0y ..; first | refine cd_t ?_ | refine cd_f ?_ | refine cd_n (fun _ => ?_) (fun _ => ?_) | refine cd_b (fun _ => ?_) (fun _ => ?_)) | refine q0a ?_ | refine q0m ?_ | refine q0l ?_ | refine q1a ?_ | refine q0j ?_ | refine q1c ?_ | refine bl_pass rfl ?_ | refine q1f ?_ | refine bl_pan ?_ | (show retQ ..; first | refine q0o ?_ | refine q0b ?_) | refine q0e ?_)
        all_goals exact again (n + 1) ⟨by omega, hs'⟩ (by omega) (by (refine q2q ?_ ?_ <;> repeat' (first | exact q2a | exact q2c | refine q1i (by (try simp only [go_sem, *]); try rfl) (by simp only [go_sem, *]) ?_ | refine q2d (by (try simp only [go_sem, *]); try rfl) (by omega) (by simp only [go_sem, *]) ?_ | refine q2b (by (try simp only [go_sem, *]); try rfl) (by omega) (by simp only [go_sem, *]) ?_)))
      | true =>
        have c2 : decide (page < x.va + x.n) = false := by rcases hi with hi | hi; rw [c1] at hi; cases hi; exact hi
        clear hi
        repeat' (first | (show q0x ..; first | refine q0d ?_ | refine q0p rfl ?_ | refine q0z rfl rfl ?_) | (show q1d ..; refine q0n rfl rfl ?_) | (show goOn ..; first | refine q0s ?_ | refine q0v ?_ | refine q0w ?_) | (show q1g ..; refine q0i ?_) | (show wGo ..; first | refine q1o ?_ | refine q1u ?_ | refine q1q ?_ | refine q1s ?_ | refine gw_u ?_ | refine q1p (fun _ => ?_) (fun _ => ?_) | refine q1t (fun _ => ?_) (fun _ => ?_) | refine q1r (fun _ => ?_) (fun _ => ?_) | refine q1v (fun _ => ?_) (fun _ => ?_)) | (show dr ..; first | refine q1k ?_ | refine dr_n rfl ?_ | refine q3b rfl rfl ?_) | (show drGo ..; refine q2h rfl ?_) | (show drOn ..; first | refine q1l ?_ | refine q1z ?_ | refine q1y ?_) | (show q1w ..; refine q1e ?_) | (refine And.intro (by kernel_rfl : q1x _ = true) ?_) | (show q0g ..; first | refine q0q ?_ | refine q0c ?_ | refine q1h (by kernel_rfl) ?_ | refine q0r ?_ | refine q0f ?_ | refine q0t ?_ | refine q1b ?_ | refine q0k ?_) | (show q0y ..; first | refine cd_t ?_ | refine cd_f ?_ | refine cd_n (fun _ => ?_) (fun _ => ?_) | refine cd_b (fun _ => ?_) (fun _ => ?_)) | refine q0a ?_ | refine q0m ?_ | refine q0l ?_ | refine q1a ?_ | refine q0j ?_ | refine q1c ?_ | refine bl_pass rfl ?_ | refine q1f ?_ | refine bl_pan ?_ | (show retQ ..; first | refine q0o ?_ | refine q0b ?_) | refine q0e ?_)
        all_goals exact again (n + 1) ⟨by omega, hs'⟩ (by omega) (by (refine q2q ?_ ?_ <;> repeat' (first | exact q2a | exact q2c | refine q1i (by (try simp only [go_sem, *]); try rfl) (by simp only [go_sem, *]) ?_ | refine q2d (by (try simp only [go_sem, *]); try rfl) (by omega) (by simp only [go_sem, *]) ?_ | refine q2b (by (try simp only [go_sem, *]); try rfl) (by omega) (by simp only [go_sem, *]) ?_)))
  · have h0 := q3a hge
    have hf : findM l page = (Mp.zero, 0, false) := by
      unfold findM FM
      rw [find_none (p := inM page) hge hs]
    rw [hf]
    clear hs hf
    repeat' (first | (show q0x ..; first | refine q0d ?_ | refine q0p rfl ?_ | refine q0z rfl rfl ?_) | (show q1d ..; refine q0n rfl rfl ?_) | (show goOn ..; first | refine q0s ?_ | refine q0v ?_ | refine q0w ?_) | (show q1g ..; refine q0i ?_) | (show wGo ..; first | refine q1o ?_ | refine q1u ?_ | refine q1q ?_ | refine q1s ?_ | refine gw_u ?_ | refine q1p (fun _ => ?_) (fun _ => ?_) | refine q1t (fun _ => ?_) (fun _ => ?_) | refine q1r (fun _ => ?_) (fun _ => ?_) | refine q1v (fun _ => ?_) (fun _ => ?_)) | (show dr ..; first | refine q1k ?_ | refine dr_n rfl ?_ | refine q3b rfl rfl ?_) | (show drGo ..; refine q2h rfl ?_) | (show drOn ..; first | refine q1l ?_ | refine q1z ?_ | refine q1y ?_) | (show q1w ..; refine q1e ?_) | (refine And.intro (by kernel_rfl : q1x _ = true) ?_) | (show q0g ..; first | refine q0q ?_ | refine q0c ?_ | refine q1h (by kernel_rfl) ?_ | refine q0r ?_ | refine q0f ?_ | refine q0t ?_ | refine q1b ?_ | refine q0k ?_) | (show q0y ..; first | refine cd_t ?_ | refine cd_f ?_ | refine cd_n (fun _ => ?_) (fun _ => ?_) | refine cd_b (fun _ => ?_) (fun _ => ?_)) | refine q0a ?_ | refine q0m ?_ | refine q0l ?_ | refine q1a ?_ | refine q0j ?_ | refine q1c ?_ | refine bl_pass rfl ?_ | refine q1f ?_ | refine bl_pan ?_ | (show retQ ..; first | refine q0o ?_ | refine q0b ?_) | refine q0e ?_)
    all_goals rfl
theorem split_facts (k : Nat) (hk : k ≤ 18446744073709551615) : IntKind.u64.wrap (Int.tdiv (k : Int) 16) = ((k / 16 : Nat) : Int) ∧ Int.tmod (k : Int) 16 = ((k % 16 : Nat) : Int) := by
  have h1 : Int.tdiv (k : Int) 16 = ((k / 16 : Nat) : Int) := (Int.ofNat_tdiv k 16).symm
  have h2 : Int.tmod (k : Int) 16 = ((k % 16 : Nat) : Int) := by rw [Int.tmod_eq_emod_of_nonneg (by omega)]; omega
  refine ⟨?_, h2⟩
  rw [h1, IntKind.wrap_u64]; omega
theorem pages_split (k : Nat) (hk : k ≤ 18446744073709551615) : Pure Tryz.prog 179 [.int .u64 (k : Int)] (.tup [.int .i64 (splitN k).1, .int .i64 (splitN k).2.1, .bool (splitN k).2.2]) := by
  obtain ⟨h1, h2⟩ := split_facts k hk
  unfold splitN
  by_cases h : 1048576 ≤ k / 16
  · rw [if_pos h]
    have h3 : decide (((k / 16 : Nat) : Int) ≥ 1048576) = true := decide_eq_true (by omega)
    refine q2i (by kernel_rfl) (by simp only [go_sem, *]) (by simp only [go_sem, *]) Tryz.func179 Tryz.results179 rfl (by simp [Tryz.ntmps179]) (by kernel_rfl) ?_
    repeat' (first | (show q0x ..; first | refine q0d ?_ | refine q0p rfl ?_) | (show q1d ..; refine q0n rfl rfl ?_) | (show goOn ..; refine q0s ?_) | (show q0g ..; first | refine q0q ?_ | refine q0c ?_ | refine q0r ?_ | refine q0f ?_ | refine q0k ?_) | (show q0y ..; first | refine cd_t ?_ | refine cd_f ?_ | refine cd_n (fun _ => ?_) (fun _ => ?_) | refine cd_b (fun _ => ?_) (fun _ => ?_)) | refine q0a ?_ | refine q0m ?_ | refine q0l ?_ | (show retQ ..; first | refine q0o ?_ | refine q0b ?_) | refine q0e ?_)
    all_goals rfl
  · rw [if_neg h]
    have h3 : decide (((k / 16 : Nat) : Int) ≥ 1048576) = false := decide_eq_false (by omega)
    have h4 : IntKind.i64.wrap ((k / 16 : Nat) : Int) = ((k / 16 : Nat) : Int) := by rw [IntKind.wrap_i64]; omega
    have h5 : IntKind.i64.wrap ((k % 16 : Nat) : Int) = ((k % 16 : Nat) : Int) := by rw [IntKind.wrap_i64]; omega
    refine q2i (by kernel_rfl) (by simp only [go_sem, *]) (by simp only [go_sem, *]) Tryz.func179 Tryz.results179 rfl (by simp [Tryz.ntmps179]) (by kernel_rfl) ?_
    repeat' (first | (show q0x ..; first | refine q0d ?_ | refine q0p rfl ?_) | (show q1d ..; refine q0n rfl rfl ?_) | (show goOn ..; refine q0s ?_) | (show q0g ..; first | refine q0q ?_ | refine q0c ?_ | refine q0r ?_ | refine q0f ?_ | refine q0k ?_) | (show q0y ..; first | refine cd_t ?_ | refine cd_f ?_ | refine cd_n (fun _ => ?_) (fun _ => ?_) | refine cd_b (fun _ => ?_) (fun _ => ?_)) | refine q0a ?_ | refine q0m ?_ | refine q0l ?_ | (show retQ ..; first | refine q0o ?_ | refine q0b ?_) | refine q0e ?_)
    all_goals rfl
theorem r12_split (k : Nat) (hk : k ≤ 18446744073709551615) : Pure Tryz.prog 82 [.int .u64 (k : Int)] (.tup [.int .i64 (splitN k).1, .int .i64 (splitN k).2.1, .bool (splitN k).2.2]) := by
  obtain ⟨h1, h2⟩ := split_facts k hk
  unfold splitN
  by_cases h : 1048576 ≤ k / 16
  · rw [if_pos h]
    have h3 : decide (((k / 16 : Nat) : Int) ≥ 1048576) = true := decide_eq_true (by omega)
    refine q2i (by kernel_rfl) (by simp only [go_sem, *]) (by simp only [go_sem, *]) Tryz.func82 Tryz.results82 rfl (by simp [Tryz.ntmps82]) (by kernel_rfl) ?_
    repeat' (first | (show q0x ..; first | refine q0d ?_ | refine q0p rfl ?_) | (show q1d ..; refine q0n rfl rfl ?_) | (show goOn ..; refine q0s ?_) | (show q0g ..; first | refine q0q ?_ | refine q0c ?_ | refine q0r ?_ | refine q0f ?_ | refine q0k ?_) | (show q0y ..; first | refine cd_t ?_ | refine cd_f ?_ | refine cd_n (fun _ => ?_) (fun _ => ?_) | refine cd_b (fun _ => ?_) (fun _ => ?_)) | refine q0a ?_ | refine q0m ?_ | refine q0l ?_ | (show retQ ..; first | refine q0o ?_ | refine q0b ?_) | refine q0e ?_)
    all_goals rfl
  · rw [if_neg h]
    have h3 : decide (((k / 16 : Nat) : Int) ≥ 1048576) = false := decide_eq_false (by omega)
    have h4 : IntKind.i64.wrap ((k / 16 : Nat) : Int) = ((k / 16 : Nat) : Int) := by rw [IntKind.wrap_i64]; omega
    have h5 : IntKind.i64.wrap ((k % 16 : Nat) : Int) = ((k % 16 : Nat) : Int) := by rw [IntKind.wrap_i64]; omega
    refine q2i (by kernel_rfl) (by simp only [go_sem, *]) (by simp only [go_sem, *]) Tryz.func82 Tryz.results82 rfl (by simp [Tryz.ntmps82]) (by kernel_rfl) ?_
    repeat' (first | (show q0x ..; first | refine q0d ?_ | refine q0p rfl ?_) | (show q1d ..; refine q0n rfl rfl ?_) | (show goOn ..; refine q0s ?_) | (show q0g ..; first | refine q0q ?_ | refine q0c ?_ | refine q0r ?_ | refine q0f ?_ | refine q0k ?_) | (show q0y ..; first | refine cd_t ?_ | refine cd_f ?_ | refine cd_n (fun _ => ?_) (fun _ => ?_) | refine cd_b (fun _ => ?_) (fun _ => ?_)) | refine q0a ?_ | refine q0m ?_ | refine q0l ?_ | (show retQ ..; first | refine q0o ?_ | refine q0b ?_) | refine q0e ?_)
    all_goals rfl
end Go.Proofs.YteibeoipnjhicaaGreat
end
