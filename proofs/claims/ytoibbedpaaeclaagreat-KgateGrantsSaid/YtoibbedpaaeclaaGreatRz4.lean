import Derived.Test.YtoibbedpaaeclaaGreatRz3
section
namespace Go.Proofs.YtoibbedpaaeclaaGreat
open Go Go.RowKit
set_option linter.unusedVariables false
set_option linter.unusedSimpArgs false
set_option maxHeartbeats 8000000
set_option maxRecDepth 100000
attribute [local irreducible] q0i dr q0d Ex.then Ex.inBlock retQ q1n q2d q2c Pure CSat evOp q1i rdOf upd hset strip sp0 cut envL q1g q3i Keep BdL evBs q2n q2s
def q1j (l : List Pr) (c : Int) : Int := match l.find? (fun p => p.cat == c) with
  | some p => p.lev
  | none => 2
theorem find_at {α : Type} {p : α → Bool} {l : List α} {n : Nat} {x : α} (hx : l[n]? = some x) (hp : p x = true) (h : ∀ j, j < n → ∀ y, l[j]? = some y → p y = false) : l.find? p = some x := by
  rw [List.find?_eq_some_iff_getElem]
  obtain ⟨hn, e⟩ := List.getElem?_eq_some_iff.1 hx
  refine ⟨hp, n, hn, e, fun j hj => ?_⟩
  rw [h j hj _ (List.getElem?_eq_getElem (by omega))]; rfl
theorem find_none {α : Type} {p : α → Bool} {l : List α} {n : Nat} (hn : l.length ≤ n) (h : ∀ j, j < n → ∀ y, l[j]? = some y → p y = false) : l.find? p = none := by
  rw [List.find?_eq_none]
  intro x hx
  obtain ⟨j, hj⟩ := List.getElem?_of_mem hx
  rw [h j (by have := q3w hj; omega) x hj]; exact Bool.false_ne_true
theorem none_to {α : Type} {p : α → Bool} {l : List α} {n : Nat} {x : α} (hx : l[n]? = some x) (h : ∀ j, j < n → ∀ y, l[j]? = some y → p y = false) (hp : p x = false) : ∀ j, j < n + 1 → ∀ y, l[j]? = some y → p y = false := by
  intro j hj y hy
  rcases Nat.lt_or_ge j n with h1 | h1
  · exact h j h1 y hy
  · have : j = n := by omega
    subst this
    rw [hx] at hy; rw [← Option.some.inj hy]; exact hp
theorem r2_get (l : List Pr) (c : Int) (hl : l.length ≤ 9223372036854775807) : Pure Tryz.prog 30 [.sl (l.map Pr.enc), .int .u64 c] (.int .i64 (q1j l c)) := by
  refine q2p (by kernel_rfl) (by simp only [go_sem, *]) (by simp only [go_sem, *]) Tryz.func30 Tryz.results30 rfl (by simp [Tryz.ntmps30]) (by kernel_rfl) ?_
  repeat' (first | (show q0i ..; first | refine q0c ?_ | refine q0e rfl ?_) | (show q0k ..; refine q0f rfl rfl ?_) | (show goOn ..; refine q0g ?_) | (show q0d ..; first | refine q0h ?_ | refine q0b ?_ | refine q0m ?_) | refine q0a ?_)
  refine q2l (S := Nat) (fun n => l.length - n) (fun n => n ≤ l.length ∧ ∀ j, j < n → ∀ y, l[j]? = some y → (y.cat == c) = false) (fun n => [(0, .sl (l.map Pr.enc)), (1, .int .u64 c), (5, .int .i64 n)]) (fun _ => []) (fun _ => 0) 0 ⟨Nat.zero_le _, fun j hj => absurd hj (Nat.not_lt_zero j)⟩ (by (refine q1l ?_ ?_ <;> repeat' (first | exact q0v | exact q0y | refine q0p (by (try simp only [go_sem, *]); try rfl) (by simp only [go_sem, *]) ?_ | refine q0z (by (try simp only [go_sem, *]); try rfl) (by omega) (by simp only [go_sem, *]) ?_ | refine q0x (by (try simp only [go_sem, *]); try rfl) (by omega) (by simp only [go_sem, *]) ?_))) ?_
  rintro n ⟨hn, hs⟩
  rcases Nat.lt_or_ge n l.length with hlt | hge
  · obtain ⟨x, hx⟩ := q2b hlt
    have h0 := q2h hlt
    have h4 := q2a n (by omega)
    repeat' (first | (show q0i ..; first | refine q0c ?_ | refine q0e rfl ?_) | (show q0k ..; refine q0f rfl rfl ?_) | (show goOn ..; refine q0g ?_) | (show q0d ..; first | refine q0h ?_ | refine q0b ?_ | refine q0t ?_ | refine q0s ?_ | refine q0m ?_ | refine q0j ?_) | (show q0o ..; first | refine cd_t ?_ | refine cd_b (fun _ => ?_) (fun _ => ?_)) | refine q0a ?_ | refine q2j ?_ | refine q0q ?_ | refine q3k ?_ | (show retQ ..; refine q0u ?_) | refine q0n ?_)
    all_goals rename_i hc
    · have := find_at (p := fun p : Pr => p.cat == c) hx hc hs
      unfold q1j; rw [this]
    · exact again (n + 1) ⟨by omega, none_to hx hs hc⟩ (by omega) (by (refine q1l ?_ ?_ <;> repeat' (first | exact q0v | exact q0y | refine q0p (by (try simp only [go_sem, *]); try rfl) (by simp only [go_sem, *]) ?_ | refine q0z (by (try simp only [go_sem, *]); try rfl) (by omega) (by simp only [go_sem, *]) ?_ | refine q0x (by (try simp only [go_sem, *]); try rfl) (by omega) (by simp only [go_sem, *]) ?_)))
  · have h0 := q1q hge
    repeat' (first | (show q0i ..; first | refine q0c ?_ | refine q0e rfl ?_) | (show q0k ..; refine q0f rfl rfl ?_) | (show goOn ..; refine q0g ?_) | (show q0d ..; first | refine q0h ?_ | refine q0b ?_ | refine q0t ?_ | refine q1s ?_ | refine q0j ?_) | (show q0o ..; refine cd_f ?_) | refine q0a ?_ | refine q1r ?_ | refine q1t ?_ | (show retQ ..; refine q0u ?_) | refine q0n ?_)
    have := find_none (p := fun p : Pr => p.cat == c) hge hs
    unfold q1j; rw [this]
def leqAt (a b : List Pr) (k : Nat) : Bool := match a[k]? with
  | some x => levLeq x.lev (q1j b x.cat)
  | none => true
def geqAt (a b : List Pr) (k : Nat) : Bool := match b[k]? with
  | some x => levLeq (q1j a x.cat) x.lev
  | none => true
def leqR (a b : List Pr) : Bool := allB a.length (leqAt a b) && allB b.length (geqAt a b)
theorem r2_leq (a b : List Pr) (ha : a.length ≤ 9223372036854775807) (hb : b.length ≤ 9223372036854775807) : Pure Tryz.prog 22 [.sl (a.map Pr.enc), .sl (b.map Pr.enc)] (.bool (leqR a b)) := by
  refine q2p (by kernel_rfl) (by simp only [go_sem, *]) (by simp only [go_sem, *]) Tryz.func22 Tryz.results22 rfl (by simp [Tryz.ntmps22]) (by kernel_rfl) ?_
  repeat' (first | (show q0i ..; first | refine q0c ?_ | refine q0e rfl ?_) | (show q0k ..; refine q0f rfl rfl ?_) | (show goOn ..; refine q0g ?_) | (show q0d ..; first | refine q0h ?_ | refine q0b ?_ | refine q0m ?_) | refine q0a ?_)
  refine q2l (S := Nat) (fun n => a.length - n) (fun n => n ≤ a.length ∧ ∀ j, j < n → leqAt a b j = true) (fun n => [(0, .sl (a.map Pr.enc)), (1, .sl (b.map Pr.enc)), (5, .int .i64 n)]) (fun _ => []) (fun _ => 0) 0 ⟨Nat.zero_le _, fun j hj => absurd hj (Nat.not_lt_zero j)⟩ (by (refine q1l ?_ ?_ <;> repeat' (first | exact q0v | exact q0y | refine q0p (by (try simp only [go_sem, *]); try rfl) (by simp only [go_sem, *]) ?_ | refine q0z (by (try simp only [go_sem, *]); try rfl) (by omega) (by simp only [go_sem, *]) ?_ | refine q0x (by (try simp only [go_sem, *]); try rfl) (by omega) (by simp only [go_sem, *]) ?_))) ?_
  rintro n ⟨hn, hs⟩
  rcases Nat.lt_or_ge n a.length with hlt | hge
  · obtain ⟨x, hx⟩ := q2b hlt
    have h0 := q2h hlt
    have h4 := q2a n (by omega)
    have e : leqAt a b n = levLeq x.lev (q1j b x.cat) := by unfold leqAt; rw [hx]
    repeat' (first | (show q0i ..; first | refine q0c ?_ | refine q0e rfl ?_) | (show q0k ..; refine q0f rfl rfl ?_) | (show goOn ..; refine q0g ?_) | (show dr ..; first | refine q1y ?_ | refine dr_n rfl ?_) | (show drGo ..; first | refine q2t rfl ?_ | refine q2k rfl ?_) | (show drOn ..; refine q1z ?_) | (show q2e ..; (refine q1f (r := ?_) ?_ ?_; rotate_left 1; (focus first | exact r01_leq _ _ | exact r2_get _ _ hb))) | (refine And.intro (by kernel_rfl : q1n _ = true) ?_) | (show q0d ..; first | refine q0h ?_ | refine q0b ?_ | refine q1o (by kernel_rfl) ?_ | refine q0t ?_ | refine q0s ?_ | refine q0m ?_ | refine q0j ?_) | (show q0o ..; first | refine cd_t ?_ | refine cd_n (fun _ => ?_) (fun _ => ?_)) | refine q0a ?_ | refine q2j ?_ | refine q0q ?_ | refine q3k ?_ | (show retQ ..; refine q0u ?_) | refine q0n ?_)
    all_goals rename_i hc
    · have := q2o hlt (f := leqAt a b) (by rw [e, hc])
      refine q1u ?_; unfold leqR; rw [this]; rfl
    · exact again (n + 1) ⟨by omega, q5d hs (by rw [e, hc])⟩ (by omega) (by (refine q1l ?_ ?_ <;> repeat' (first | exact q0v | exact q0y | refine q0p (by (try simp only [go_sem, *]); try rfl) (by simp only [go_sem, *]) ?_ | refine q0z (by (try simp only [go_sem, *]); try rfl) (by omega) (by simp only [go_sem, *]) ?_ | refine q0x (by (try simp only [go_sem, *]); try rfl) (by omega) (by simp only [go_sem, *]) ?_)))
  · have h0 := q1q hge
    have hall : allB a.length (leqAt a b) = true := q2m fun j hj => hs j (by omega)
    clear hs
    repeat' (first | (show q0i ..; first | refine q0c ?_ | refine q0e rfl ?_) | (show q0k ..; refine q0f rfl rfl ?_) | (show goOn ..; refine q0g ?_) | (show q0d ..; first | refine q0h ?_ | refine q0b ?_ | refine q0m ?_ | refine q1s ?_ | refine q0j ?_) | (show q0o ..; refine cd_f ?_) | refine q0a ?_ | refine q1r ?_ | refine q1t ?_)
    refine q2l (S := Nat) (fun n => b.length - n) (fun n => n ≤ b.length ∧ ∀ j, j < n → geqAt a b j = true) (fun n => [(0, .sl (a.map Pr.enc)), (1, .sl (b.map Pr.enc)), (6, .int .i64 n)]) (fun _ => []) (fun _ => 0) 0 ⟨Nat.zero_le _, fun j hj => absurd hj (Nat.not_lt_zero j)⟩ (by (refine q1l ?_ ?_ <;> repeat' (first | exact q0v | exact q0y | refine q0p (by (try simp only [go_sem, *]); try rfl) (by simp only [go_sem, *]) ?_ | refine q0z (by (try simp only [go_sem, *]); try rfl) (by omega) (by simp only [go_sem, *]) ?_ | refine q0x (by (try simp only [go_sem, *]); try rfl) (by omega) (by simp only [go_sem, *]) ?_))) ?_
    clear h0 hn hge n
    rintro n ⟨hn, hs⟩
    rcases Nat.lt_or_ge n b.length with hlt | hge
    · obtain ⟨x, hx⟩ := q2b hlt
      have h0 := q2h hlt
      have h4 := q2a n (by omega)
      have e : geqAt a b n = levLeq (q1j a x.cat) x.lev := by unfold geqAt; rw [hx]
      repeat' (first | (show q0i ..; first | refine q0c ?_ | refine q0e rfl ?_) | (show q0k ..; refine q0f rfl rfl ?_) | (show goOn ..; refine q0g ?_) | (show dr ..; first | refine q1y ?_ | refine dr_n rfl ?_) | (show drGo ..; first | refine q2t rfl ?_ | refine q2k rfl ?_) | (show drOn ..; refine q1z ?_) | (show q2e ..; (refine q1f (r := ?_) ?_ ?_; rotate_left 1; (focus first | exact r01_leq _ _ | exact r2_get _ _ ha))) | (refine And.intro (by kernel_rfl : q1n _ = true) ?_) | (show q0d ..; first | refine q0h ?_ | refine q0b ?_ | refine q1o (by kernel_rfl) ?_ | refine q0t ?_ | refine q0s ?_ | refine q0m ?_ | refine q0j ?_) | (show q0o ..; first | refine cd_t ?_ | refine cd_n (fun _ => ?_) (fun _ => ?_)) | refine q0a ?_ | refine q2j ?_ | refine q0q ?_ | refine q3k ?_ | (show retQ ..; refine q0u ?_) | refine q0n ?_)
      all_goals rename_i hc
      · have := q2o hlt (f := geqAt a b) (by rw [e, hc])
        refine q1u ?_; unfold leqR; rw [hall, this]; rfl
      · exact again (n + 1) ⟨by omega, q5d hs (by rw [e, hc])⟩ (by omega) (by (refine q1l ?_ ?_ <;> repeat' (first | exact q0v | exact q0y | refine q0p (by (try simp only [go_sem, *]); try rfl) (by simp only [go_sem, *]) ?_ | refine q0z (by (try simp only [go_sem, *]); try rfl) (by omega) (by simp only [go_sem, *]) ?_ | refine q0x (by (try simp only [go_sem, *]); try rfl) (by omega) (by simp only [go_sem, *]) ?_)))
    · have h0 := q1q hge
      have hall2 : allB b.length (geqAt a b) = true := q2m fun j hj => hs j (by omega)
      clear hs
      repeat' (first | (show q0i ..; first | refine q0c ?_ | refine q0e rfl ?_) | (show q0k ..; refine q0f rfl rfl ?_) | (show goOn ..; refine q0g ?_) | (show q0d ..; first | refine q0h ?_ | refine q0b ?_ | refine q0t ?_ | refine q1s ?_ | refine q0j ?_) | (show q0o ..; refine cd_f ?_) | refine q0a ?_ | refine q1r ?_ | refine q1t ?_ | (show retQ ..; refine q0u ?_) | refine q0n ?_)
      refine q1u ?_; unfold leqR; rw [hall, hall2]; rfl
def mapOne (m : Mp) : Bool := decide (m.va ≥ 0) && (decide (m.va < 1048576) && (decide (m.off ≥ 0) && (decide (m.off < 1048576) && (decide (m.n ≥ 1) && (decide (m.n ≤ 1048576) && (decide (m.n ≤ IntKind.i64.wrap (1048576 - m.va)) && decide (m.n ≤ IntKind.i64.wrap (1048576 - m.off))))))))
theorem r12_one (m : Mp) : Pure Tryz.prog 152 [.agg (Mp.enc m)] (.bool (mapOne m)) := by
  refine q2p (by kernel_rfl) (by simp only [go_sem, *]) (by simp only [go_sem, *]) Tryz.func152 Tryz.results152 rfl (by simp [Tryz.ntmps152]) (by kernel_rfl) ?_
  repeat' (first | (show q0i ..; first | refine q0c ?_ | refine q0e rfl ?_ | refine q1a rfl rfl ?_) | (show q0k ..; refine q0f rfl rfl ?_) | (show goOn ..; first | refine q0g ?_ | refine q1d ?_) | (show wGo ..; first | refine q3h ?_ | refine q3r ?_ | refine q9r (fun _ => ?_) (fun _ => ?_)) | (show q0d ..; first | refine q0h ?_ | refine q0b ?_ | refine q0t ?_) | refine q0a ?_ | (show retQ ..; refine q0u ?_) | refine q0n ?_)
  all_goals (refine q1u ?_; unfold mapOne; simp only [*, Bool.not_true, Bool.not_false, Bool.and_true, Bool.true_and, Bool.and_false, Bool.false_and, Bool.or_true, Bool.true_or, Bool.or_false, Bool.false_or, Bool.and_self, Bool.or_self, decide_true, decide_false, Bool.not_not, if_true, if_false, Bool.false_eq_true, eq_self])
def mapAt (l : List Mp) (k : Nat) : Bool := match l[k]? with
  | none => true
  | some x => mapOne x && (match k with
    | 0 => true
    | j + 1 => match l[j]? with
      | some y => !decide (IntKind.i64.wrap (y.va + y.n) > x.va)
      | none => true)
def mapFit (l : List Mp) : Bool := decide (l.length ≤ 16) && allB l.length (mapAt l)
theorem r12_fit (l : List Mp) (hl : l.length ≤ 9223372036854775807) : Pure Tryz.prog 104 [.sl (l.map Mp.enc)] (.bool (mapFit l)) := by
  refine q2p (by kernel_rfl) (by simp only [go_sem, *]) (by simp only [go_sem, *]) Tryz.func104 Tryz.results104 rfl (by simp [Tryz.ntmps104]) (by kernel_rfl) ?_
  by_cases h16 : l.length ≤ 16
  · have hg : decide ((l.length : Int) > 16) = false := decide_eq_false (by omega)
    have hd : decide (l.length ≤ 16) = true := decide_eq_true h16
    repeat' (first | (show q0i ..; first | refine q0c ?_ | refine q0e rfl ?_) | (show q0k ..; refine q0f rfl rfl ?_) | (show goOn ..; refine q0g ?_) | (show q0d ..; first | refine q0h ?_ | refine q0b ?_ | refine q0s ?_ | refine q0m ?_ | refine q0j ?_) | (show q0o ..; refine cd_f ?_) | refine q0a ?_)
    refine q2l (S := Nat) (fun n => l.length - n) (fun n => n ≤ l.length ∧ ∀ j, j < n → mapAt l j = true) (fun n => [(0, .sl (l.map Mp.enc)), (3, .int .i64 n)]) (fun _ => []) (fun _ => 0) 0 ⟨Nat.zero_le _, fun j hj => absurd hj (Nat.not_lt_zero j)⟩ (by (refine q1l ?_ ?_ <;> repeat' (first | exact q0v | exact q0y | refine q0p (by (try simp only [go_sem, *]); try rfl) (by simp only [go_sem, *]) ?_ | refine q0z (by (try simp only [go_sem, *]); try rfl) (by omega) (by simp only [go_sem, *]) ?_ | refine q0x (by (try simp only [go_sem, *]); try rfl) (by omega) (by simp only [go_sem, *]) ?_))) ?_
    rintro n ⟨hn, hs⟩
    have fin : ∀ b, allB l.length (mapAt l) = b → b = mapFit l := fun b hb => by unfold mapFit; rw [hb, hd]; rfl
    rcases Nat.lt_or_ge n l.length with hlt | hge
    · obtain ⟨x, hx⟩ := q2b hlt
      have h0 := q2h hlt
      have h4 := q2a n (by omega)
      cases n with
      | zero =>
        have e : mapAt l 0 = (mapOne x && true) := by unfold mapAt; rw [hx]
        repeat' (first | (show q0i ..; first | refine q0c ?_ | refine q0e rfl ?_) | (show q0k ..; refine q0f rfl rfl ?_) | (show goOn ..; refine q0g ?_) | (show wGo ..; first | refine q4b ?_ | refine q3r ?_ | refine q4y ?_ | refine gw_u ?_ | refine q9s (fun _ => ?_) (fun _ => ?_)) | (show dr ..; first | refine q1y ?_ | refine dr_n rfl ?_ | refine q5j rfl rfl ?_) | (show drGo ..; first | refine q2t rfl ?_ | refine q2k rfl ?_) | (show drOn ..; refine q1z ?_) | (show q2e ..; (refine q1f (r := ?_) ?_ ?_; rotate_left 1; (focus exact r12_one _))) | (refine And.intro (by kernel_rfl : q1n _ = true) ?_) | (show q0d ..; first | refine q0h ?_ | refine q0b ?_ | refine q1o (by kernel_rfl) ?_ | refine q0t ?_ | refine q0s ?_ | refine q0m ?_ | refine q0j ?_) | (show q0o ..; first | refine cd_t ?_ | refine cd_f ?_) | refine q0a ?_ | refine q2j ?_ | refine q0q ?_ | refine q3k ?_ | (show retQ ..; refine q0u ?_) | refine q0n ?_)
        all_goals first
          | (refine q1u (fin _ (q2o hlt ?_)); simp only [*, Bool.not_true, Bool.not_false, Bool.and_true, Bool.true_and, Bool.and_false, Bool.false_and, Bool.or_true, Bool.true_or, Bool.or_false, Bool.false_or, Bool.and_self, Bool.or_self, decide_true, decide_false, Bool.not_not, if_true, if_false, Bool.false_eq_true, eq_self])
          | (refine again (0 + 1) ⟨?_, q5d hs ?_⟩ ?_ (by (refine q1l ?_ ?_ <;> repeat' (first | exact q0v | exact q0y | refine q0p (by (try simp only [go_sem, *]); try rfl) (by simp only [go_sem, *]) ?_ | refine q0z (by (try simp only [go_sem, *]); try rfl) (by omega) (by simp only [go_sem, *]) ?_ | refine q0x (by (try simp only [go_sem, *]); try rfl) (by omega) (by simp only [go_sem, *]) ?_))); (focus omega); (focus simp only [*, Bool.not_true, Bool.not_false, Bool.and_true, Bool.true_and, Bool.and_false, Bool.false_and, Bool.or_true, Bool.true_or, Bool.or_false, Bool.false_or, Bool.and_self, Bool.or_self, decide_true, decide_false, Bool.not_not, if_true, if_false, Bool.false_eq_true, eq_self]); (focus omega))
      | succ j =>
        obtain ⟨y, hy⟩ := q2b (by omega : j < l.length)
        have h5 := x0n j (by omega)
        have h6 := gt_prev j
        have e : mapAt l (j + 1) = (mapOne x && !decide (IntKind.i64.wrap (y.va + y.n) > x.va)) := by unfold mapAt; rw [hx]; simp only [hy]
        repeat' (first | (show q0i ..; first | refine q0c ?_ | refine q0e rfl ?_) | (show q0k ..; refine q0f rfl rfl ?_) | (show goOn ..; refine q0g ?_) | (show wGo ..; first | refine q3h ?_ | refine q4b ?_ | refine q4y ?_ | refine gw_u ?_ | refine q9s (fun _ => ?_) (fun _ => ?_)) | (show dr ..; first | refine q1y ?_ | refine dr_n rfl ?_ | refine q5j rfl rfl ?_) | (show drGo ..; first | refine q2t rfl ?_ | refine q2k rfl ?_) | (show drOn ..; refine q1z ?_) | (show q2e ..; (refine q1f (r := ?_) ?_ ?_; rotate_left 1; (focus exact r12_one _))) | (refine And.intro (by kernel_rfl : q1n _ = true) ?_) | (show q0d ..; first | refine q0h ?_ | refine q0b ?_ | refine q1o (by kernel_rfl) ?_ | refine q0t ?_ | refine q0s ?_ | refine q0m ?_ | refine q0j ?_) | (show q0o ..; first | refine cd_t ?_ | refine cd_b (fun _ => ?_) (fun _ => ?_)) | refine q0a ?_ | refine q2j ?_ | refine q0q ?_ | refine q3k ?_ | (show retQ ..; refine q0u ?_) | refine q0n ?_)
        all_goals first
          | (refine q1u (fin _ (q2o hlt ?_)); simp only [*, Bool.not_true, Bool.not_false, Bool.and_true, Bool.true_and, Bool.and_false, Bool.false_and, Bool.or_true, Bool.true_or, Bool.or_false, Bool.false_or, Bool.and_self, Bool.or_self, decide_true, decide_false, Bool.not_not, if_true, if_false, Bool.false_eq_true, eq_self])
          | (refine again (j + 1 + 1) ⟨?_, q5d hs ?_⟩ ?_ (by (refine q1l ?_ ?_ <;> repeat' (first | exact q0v | exact q0y | refine q0p (by (try simp only [go_sem, *]); try rfl) (by simp only [go_sem, *]) ?_ | refine q0z (by (try simp only [go_sem, *]); try rfl) (by omega) (by simp only [go_sem, *]) ?_ | refine q0x (by (try simp only [go_sem, *]); try rfl) (by omega) (by simp only [go_sem, *]) ?_))); (focus omega); (focus simp only [*, Bool.not_true, Bool.not_false, Bool.and_true, Bool.true_and, Bool.and_false, Bool.false_and, Bool.or_true, Bool.true_or, Bool.or_false, Bool.false_or, Bool.and_self, Bool.or_self, decide_true, decide_false, Bool.not_not, if_true, if_false, Bool.false_eq_true, eq_self]); (focus omega))
    · have h0 := q1q hge
      repeat' (first | (show q0i ..; first | refine q0c ?_ | refine q0e rfl ?_) | (show q0k ..; refine q0f rfl rfl ?_) | (show goOn ..; refine q0g ?_) | (show q0d ..; first | refine q0h ?_ | refine q0b ?_ | refine q0t ?_ | refine q1s ?_ | refine q0j ?_) | (show q0o ..; refine cd_f ?_) | refine q0a ?_ | refine q1r ?_ | refine q1t ?_ | (show retQ ..; refine q0u ?_) | refine q0n ?_)
      exact q1u (fin _ (q2m fun j hj => hs j (by omega)))
  · have hg : decide ((l.length : Int) > 16) = true := decide_eq_true (by omega)
    have hd : decide (l.length ≤ 16) = false := decide_eq_false h16
    repeat' (first | (show q0i ..; first | refine q0c ?_ | refine q0e rfl ?_) | (show q0k ..; refine q0f rfl rfl ?_) | (show goOn ..; refine q0g ?_) | (show q0d ..; first | refine q0h ?_ | refine q0b ?_ | refine q0t ?_ | refine q0j ?_) | (show q0o ..; refine cd_t ?_) | refine q0a ?_ | refine q2j ?_ | (show retQ ..; refine q0u ?_) | refine q0n ?_)
    refine q1u ?_; unfold mapFit; rw [hd]; rfl
end Go.Proofs.YtoibbedpaaeclaaGreat
end

section
namespace Go.Proofs.YtoibbedpaaeclaaGreat
open Go Go.RowKit
set_option linter.unusedVariables false
set_option linter.unusedSimpArgs false
set_option maxHeartbeats 16000000
set_option maxRecDepth 100000
attribute [local irreducible] q0i dr q0d Ex.then Ex.inBlock retQ q1n q2d q2c Pure CSat evOp q1i rdOf upd hset strip sp0 cut envL q1g q3i Keep BdL evBs q2n q2s
def Th.L (t : Th) : Prop := t.clear.length ≤ 9223372036854775807 ∧ t.alerts.length ≤ 9223372036854775807 ∧ ∀ i, i < 4 → (t.labs i).length ≤ 9223372036854775807
theorem Th.lens {t : Th} (h : t.wf) : t.L := by
  obtain ⟨_, _, hc, _, _, _, _, _, ha, _, hl⟩ := h
  exact ⟨hc.2, ha.2, fun i hi => (hl i hi).2⟩
def Gt.L (t : Gt) : Prop := t.grant.length ≤ 9223372036854775807 ∧ t.clear.length ≤ 9223372036854775807
theorem Gt.lens {t : Gt} (h : t.wf) : t.L := by
  obtain ⟨hg, hc, _⟩ := h
  exact ⟨hg.2, hc.2⟩
def Ob.L (o : Ob) : Prop := o.label.length ≤ 9223372036854775807 ∧ o.links.length ≤ 9223372036854775807 ∧ o.data.length ≤ 9223372036854775807 ∧ o.maps.length ≤ 9223372036854775807 ∧ o.thread.L ∧ o.gate.L ∧ o.inn.length ≤ 9223372036854775807 ∧ o.out.length ≤ 9223372036854775807
theorem Ob.lens {o : Ob} (h : o.wf) : o.L := by
  obtain ⟨_, _, hl, _, _, hk, hd, hm, ht, hg, hi, ho⟩ := h
  exact ⟨hl.2, hk.2, hd.2, hm.2, Th.lens ht, Gt.lens hg, hi.2, ho.2⟩
theorem Th.zeroL : Th.zero.L := ⟨by decide, by decide, fun i _ => by show ([] : List Pr).length ≤ _; decide⟩
theorem Gt.zeroL : Gt.zero.L := ⟨by decide, by decide⟩
/-- Parts of an object. -/
theorem Ob.partL {o : Ob} (h : o.L) (x : Ob) (h1 : x.label = o.label ∨ x.label = []) (h2 : x.links = o.links ∨ x.links = []) (h3 : x.data = o.data ∨ x.data = []) (h4 : x.maps = o.maps ∨ x.maps = []) (h5 : x.thread = o.thread ∨ x.thread = Th.zero) (h6 : x.gate = o.gate ∨ x.gate = Gt.zero) (h7 : x.inn = o.inn ∨ x.inn = []) (h8 : x.out = o.out ∨ x.out = []) : x.L := by
  obtain ⟨l1, l2, l3, l4, l5, l6, l7, l8⟩ := h
  refine ⟨?_, ?_, ?_, ?_, ?_, ?_, ?_, ?_⟩
  · rcases h1 with e | e <;> rw [e] <;> first | assumption | exact Nat.zero_le _
  · rcases h2 with e | e <;> rw [e] <;> first | assumption | exact Nat.zero_le _
  · rcases h3 with e | e <;> rw [e] <;> first | assumption | exact Nat.zero_le _
  · rcases h4 with e | e <;> rw [e] <;> first | assumption | exact Nat.zero_le _
  · rcases h5 with e | e <;> rw [e] <;> first | assumption | exact Th.zeroL
  · rcases h6 with e | e <;> rw [e] <;> first | assumption | exact Gt.zeroL
  · rcases h7 with e | e <;> rw [e] <;> first | assumption | exact Nat.zero_le _
  · rcases h8 with e | e <;> rw [e] <;> first | assumption | exact Nat.zero_le _
def labsEq (a b : Th) (i : Nat) : Bool := decide (a.labs i = b.labs i)
def sameTh (a b : Th) : Bool := allB 4 (labsEq a b) && (regsEq a.regs b.regs && (a.pc == b.pc && (decide (a.clear = b.clear) && (decide (a.space = b.space) && (a.handler == b.handler && (a.vector == b.vector && (a.state == b.state && (decide (a.wait = b.wait) && (decide (a.alerts = b.alerts) && decide (a.span = b.span))))))))))
theorem r13_sameThread (a b : Th) (ha : a.L) : Pure Tryz.prog 69 [.agg (Th.enc a), .agg (Th.enc b)] (.bool (sameTh a b)) := by
  refine q2p (by kernel_rfl) (by simp only [go_sem, *]) (by simp only [go_sem, *]) Tryz.func69 Tryz.results69 rfl (by simp [Tryz.ntmps69]) (by kernel_rfl) ?_
  obtain ⟨l1, l2, l3⟩ := ha
  repeat' (first | (show q0i ..; first | refine q0c ?_ | refine q0e rfl ?_) | (show q0k ..; refine q0f rfl rfl ?_) | (show goOn ..; first | refine q0g ?_ | refine q1d ?_) | (show q0d ..; first | refine q0h ?_ | refine q0b ?_ | refine q0m ?_) | refine q0a ?_)
  refine q2l (S := Nat) (fun n => 4 - n) (fun n => n ≤ 4 ∧ ∀ j, j < n → labsEq a b j = true) (fun n => [(2, .ptr 0 0), (3, .ptr 1 0), (5, .int .i64 n)]) (fun _ => [(0, .box (Th.enc a)), (1, .box (Th.enc b))]) (fun _ => 2) 0 ⟨Nat.zero_le _, fun j hj => absurd hj (Nat.not_lt_zero j)⟩ (by (refine q1l ?_ ?_ <;> repeat' (first | exact q0v | exact q0y | refine q0p (by (try simp only [go_sem, *]); try rfl) (by simp only [go_sem, *]) ?_ | refine q0z (by (try simp only [go_sem, *]); try rfl) (by omega) (by simp only [go_sem, *]) ?_ | refine q0x (by (try simp only [go_sem, *]); try rfl) (by omega) (by simp only [go_sem, *]) ?_))) ?_
  rintro n ⟨hn, hs⟩
  have no : ∀ i, i < 4 → labsEq a b i = false → sameTh a b = false := fun i hi h => by unfold sameTh; rw [q2o hi h]; rfl
  rcases (by omega : n = 0 ∨ n = 1 ∨ n = 2 ∨ n = 3 ∨ n = 4) with rfl | rfl | rfl | rfl | rfl
  · have l := l3 0 (by omega)
    simp only [c0]
    repeat' (first | (show q0i ..; first | refine q0c ?_ | refine q0e rfl ?_) | (show q0k ..; refine q0f rfl rfl ?_) | (show goOn ..; refine q0g ?_) | (show dr ..; first | refine q1y ?_ | refine dr_n rfl ?_) | (show drGo ..; first | refine q2t rfl ?_ | refine q2k rfl ?_) | (show drOn ..; refine q1z ?_) | (show q2e ..; (refine q1f (r := ?_) ?_ ?_; rotate_left 1; (focus exact q7t _ _ l))) | (refine And.intro (by kernel_rfl : q1n _ = true) ?_) | (show q0d ..; first | refine q0h ?_ | refine q0b ?_ | refine q1o (by kernel_rfl) ?_ | refine q0t ?_ | refine q0s ?_ | refine q0m ?_ | refine q0j ?_) | (show q0o ..; first | refine cd_t ?_ | refine cd_n (fun _ => ?_) (fun _ => ?_)) | refine q0a ?_ | refine q2j ?_ | refine q0q ?_ | refine q3k ?_ | (show retQ ..; refine q0u ?_) | refine q0n ?_)
    all_goals rename_i hc
    · exact q1u (no 0 (by omega) hc).symm
    · exact again 1 ⟨by omega, q5d hs hc⟩ (by omega) (by (refine q1l ?_ ?_ <;> repeat' (first | exact q0v | exact q0y | refine q0p (by (try simp only [go_sem, *]); try rfl) (by simp only [go_sem, *]) ?_ | refine q0z (by (try simp only [go_sem, *]); try rfl) (by omega) (by simp only [go_sem, *]) ?_ | refine q0x (by (try simp only [go_sem, *]); try rfl) (by omega) (by simp only [go_sem, *]) ?_)))
  · have l := l3 1 (by omega)
    simp only [c1]
    repeat' (first | (show q0i ..; first | refine q0c ?_ | refine q0e rfl ?_) | (show q0k ..; refine q0f rfl rfl ?_) | (show goOn ..; refine q0g ?_) | (show dr ..; first | refine q1y ?_ | refine dr_n rfl ?_) | (show drGo ..; first | refine q2t rfl ?_ | refine q2k rfl ?_) | (show drOn ..; refine q1z ?_) | (show q2e ..; (refine q1f (r := ?_) ?_ ?_; rotate_left 1; (focus exact q7t _ _ l))) | (refine And.intro (by kernel_rfl : q1n _ = true) ?_) | (show q0d ..; first | refine q0h ?_ | refine q0b ?_ | refine q1o (by kernel_rfl) ?_ | refine q0t ?_ | refine q0s ?_ | refine q0m ?_ | refine q0j ?_) | (show q0o ..; first | refine cd_t ?_ | refine cd_n (fun _ => ?_) (fun _ => ?_)) | refine q0a ?_ | refine q2j ?_ | refine q0q ?_ | refine q3k ?_ | (show retQ ..; refine q0u ?_) | refine q0n ?_)
    all_goals rename_i hc
    · exact q1u (no 1 (by omega) hc).symm
    · exact again 2 ⟨by omega, q5d hs hc⟩ (by omega) (by (refine q1l ?_ ?_ <;> repeat' (first | exact q0v | exact q0y | refine q0p (by (try simp only [go_sem, *]); try rfl) (by simp only [go_sem, *]) ?_ | refine q0z (by (try simp only [go_sem, *]); try rfl) (by omega) (by simp only [go_sem, *]) ?_ | refine q0x (by (try simp only [go_sem, *]); try rfl) (by omega) (by simp only [go_sem, *]) ?_)))
  · have l := l3 2 (by omega)
    simp only [c2]
    repeat' (first | (show q0i ..; first | refine q0c ?_ | refine q0e rfl ?_) | (show q0k ..; refine q0f rfl rfl ?_) | (show goOn ..; refine q0g ?_) | (show dr ..; first | refine q1y ?_ | refine dr_n rfl ?_) | (show drGo ..; first | refine q2t rfl ?_ | refine q2k rfl ?_) | (show drOn ..; refine q1z ?_) | (show q2e ..; (refine q1f (r := ?_) ?_ ?_; rotate_left 1; (focus exact q7t _ _ l))) | (refine And.intro (by kernel_rfl : q1n _ = true) ?_) | (show q0d ..; first | refine q0h ?_ | refine q0b ?_ | refine q1o (by kernel_rfl) ?_ | refine q0t ?_ | refine q0s ?_ | refine q0m ?_ | refine q0j ?_) | (show q0o ..; first | refine cd_t ?_ | refine cd_n (fun _ => ?_) (fun _ => ?_)) | refine q0a ?_ | refine q2j ?_ | refine q0q ?_ | refine q3k ?_ | (show retQ ..; refine q0u ?_) | refine q0n ?_)
    all_goals rename_i hc
    · exact q1u (no 2 (by omega) hc).symm
    · exact again 3 ⟨by omega, q5d hs hc⟩ (by omega) (by (refine q1l ?_ ?_ <;> repeat' (first | exact q0v | exact q0y | refine q0p (by (try simp only [go_sem, *]); try rfl) (by simp only [go_sem, *]) ?_ | refine q0z (by (try simp only [go_sem, *]); try rfl) (by omega) (by simp only [go_sem, *]) ?_ | refine q0x (by (try simp only [go_sem, *]); try rfl) (by omega) (by simp only [go_sem, *]) ?_)))
  · have l := l3 3 (by omega)
    simp only [c3]
    repeat' (first | (show q0i ..; first | refine q0c ?_ | refine q0e rfl ?_) | (show q0k ..; refine q0f rfl rfl ?_) | (show goOn ..; refine q0g ?_) | (show dr ..; first | refine q1y ?_ | refine dr_n rfl ?_) | (show drGo ..; first | refine q2t rfl ?_ | refine q2k rfl ?_) | (show drOn ..; refine q1z ?_) | (show q2e ..; (refine q1f (r := ?_) ?_ ?_; rotate_left 1; (focus exact q7t _ _ l))) | (refine And.intro (by kernel_rfl : q1n _ = true) ?_) | (show q0d ..; first | refine q0h ?_ | refine q0b ?_ | refine q1o (by kernel_rfl) ?_ | refine q0t ?_ | refine q0s ?_ | refine q0m ?_ | refine q0j ?_) | (show q0o ..; first | refine cd_t ?_ | refine cd_n (fun _ => ?_) (fun _ => ?_)) | refine q0a ?_ | refine q2j ?_ | refine q0q ?_ | refine q3k ?_ | (show retQ ..; refine q0u ?_) | refine q0n ?_)
    all_goals rename_i hc
    · exact q1u (no 3 (by omega) hc).symm
    · exact again 4 ⟨by omega, q5d hs hc⟩ (by omega) (by (refine q1l ?_ ?_ <;> repeat' (first | exact q0v | exact q0y | refine q0p (by (try simp only [go_sem, *]); try rfl) (by simp only [go_sem, *]) ?_ | refine q0z (by (try simp only [go_sem, *]); try rfl) (by omega) (by simp only [go_sem, *]) ?_ | refine q0x (by (try simp only [go_sem, *]); try rfl) (by omega) (by simp only [go_sem, *]) ?_)))
  · have hall : allB 4 (labsEq a b) = true := q2m hs
    simp only [c4]
    repeat' (first | (show q0i ..; first | refine q0c ?_ | refine q0e rfl ?_ | refine q1a rfl rfl ?_) | (show q0k ..; first | refine q0f rfl rfl ?_ | refine q0l rfl ?_) | (show goOn ..; refine q0g ?_) | (show q1k ..; (refine q0r (r := ?_) ?_ ?_; rotate_left 1; (focus first | exact q7t _ _ l1 | exact r2_cats _ _ l2))) | (show wGo ..; first | refine q3h ?_ | refine q3r ?_ | refine q9r (fun _ => ?_) (fun _ => ?_)) | (show q0d ..; first | refine q0h ?_ | refine q0b ?_ | refine q0t ?_ | refine q1s ?_ | refine q0j ?_) | (show q0o ..; refine cd_f ?_) | refine q0a ?_ | refine q1r ?_ | refine q1t ?_ | (show retQ ..; refine q0u ?_) | refine q0n ?_)
    all_goals (refine q1u ?_; unfold sameTh; simp only [*, Bool.not_true, Bool.not_false, Bool.and_true, Bool.true_and, Bool.and_false, Bool.false_and, Bool.or_true, Bool.true_or, Bool.or_false, Bool.false_or, Bool.and_self, Bool.or_self, decide_true, decide_false, Bool.not_not, if_true, if_false, Bool.false_eq_true, eq_self])
def sameGt (a b : Gt) : Bool := decide (a.grant = b.grant) && (decide (a.clear = b.clear) && (decide (a.space = b.space) && (a.pc == b.pc && a.arg == b.arg)))
theorem r13_sameGate (a b : Gt) (ha : a.L) : Pure Tryz.prog 70 [.agg (Gt.enc a), .agg (Gt.enc b)] (.bool (sameGt a b)) := by
  refine q2p (by kernel_rfl) (by simp only [go_sem, *]) (by simp only [go_sem, *]) Tryz.func70 Tryz.results70 rfl (by simp [Tryz.ntmps70]) (by kernel_rfl) ?_
  obtain ⟨l1, l2⟩ := ha
  repeat' (first | (show q0i ..; first | refine q0c ?_ | refine q0e rfl ?_ | refine q1a rfl rfl ?_) | (show q0k ..; first | refine q0f rfl rfl ?_ | refine q0l rfl ?_) | (show goOn ..; first | refine q0g ?_ | refine q1d ?_) | (show q1k ..; (refine q0r (r := ?_) ?_ ?_; rotate_left 1; (focus first | exact q7t _ _ l1 | exact q7t _ _ l2))) | (show wGo ..; first | refine q3h ?_ | refine q3r ?_ | refine q9r (fun _ => ?_) (fun _ => ?_)) | (show q0d ..; first | refine q0h ?_ | refine q0b ?_ | refine q0t ?_) | refine q0a ?_ | (show retQ ..; refine q0u ?_) | refine q0n ?_)
  all_goals (refine q1u ?_; unfold sameGt; simp only [*, Bool.not_true, Bool.not_false, Bool.and_true, Bool.true_and, Bool.and_false, Bool.false_and, Bool.or_true, Bool.true_or, Bool.or_false, Bool.false_or, Bool.and_self, Bool.or_self, decide_true, decide_false, Bool.not_not, if_true, if_false, Bool.false_eq_true, eq_self])
def q8c (a b : Ob) : Bool := (a.id == b.id && (a.kind == b.kind && (decide (a.label = b.label) && (a.quota == b.quota && a.fixed == b.fixed)))) && (decide (a.links = b.links) && (decide (a.data = b.data) && (decide (a.maps = b.maps) && (sameTh a.thread b.thread && (sameGt a.gate b.gate && (decide (a.inn = b.inn) && decide (a.out = b.out)))))))
theorem q5m (a b : Ob) (ha : a.L) : Pure Tryz.prog 31 [.agg (Ob.enc a), .agg (Ob.enc b)] (.bool (q8c a b)) := by
  refine q2p (by kernel_rfl) (by simp only [go_sem, *]) (by simp only [go_sem, *]) Tryz.func31 Tryz.results31 rfl (by simp [Tryz.ntmps31]) (by kernel_rfl) ?_
  obtain ⟨l1, l2, l3, l4, l5, l6, l7, l8⟩ := ha
  repeat' (first | (show q0i ..; first | refine q0c ?_ | refine q0e rfl ?_ | refine q1a rfl rfl ?_) | (show q0k ..; first | refine q0f rfl rfl ?_ | refine q0l rfl ?_) | (show goOn ..; first | refine q0g ?_ | refine q1d ?_) | (show q1k ..; (refine q0r (r := ?_) ?_ ?_; rotate_left 1; (focus first | exact q7t _ _ l1 | exact r2_cats _ _ l2 | exact r2_cats _ _ l3 | exact r12_same _ _ l4 | exact r13_sameThread _ _ l5 | exact r13_sameGate _ _ l6 | exact r2_cats _ _ l7 | exact r2_cats _ _ l8))) | (show wGo ..; first | refine q3h ?_ | refine q4b ?_ | refine q3r ?_ | refine q4y ?_ | refine q9s (fun _ => ?_) (fun _ => ?_) | refine q9r (fun _ => ?_) (fun _ => ?_)) | (show q0d ..; first | refine q0h ?_ | refine q0b ?_ | refine q0t ?_ | refine q0s ?_ | refine q0j ?_) | (show q0o ..; first | refine cd_t ?_ | refine cd_n (fun _ => ?_) (fun _ => ?_)) | refine q0a ?_ | refine q2j ?_ | (show retQ ..; refine q0u ?_) | refine q0n ?_)
  all_goals (refine q1u ?_; unfold q8c; simp only [*, Bool.not_true, Bool.not_false, Bool.and_true, Bool.true_and, Bool.and_false, Bool.false_and, Bool.or_true, Bool.true_or, Bool.or_false, Bool.false_or, Bool.and_self, Bool.or_self, decide_true, decide_false, Bool.not_not, if_true, if_false, Bool.false_eq_true, eq_self])
end Go.Proofs.YtoibbedpaaeclaaGreat
end

section
namespace Go.Proofs.YtoibbedpaaeclaaGreat
open Go Go.RowKit
set_option linter.unusedVariables false
set_option linter.unusedSimpArgs false
set_option maxHeartbeats 16000000
set_option maxRecDepth 100000
attribute [local irreducible] q0i dr q0d Ex.then Ex.inBlock retQ q1n q2d q2c Pure CSat evOp q1i rdOf upd hset strip sp0 cut envL q1g q3i Keep BdL evBs q2n q2s
def labsKept (t : Th) (i : Nat) : Bool := kept (t.labs i)
def q8f (l : List Pr) (t : Th) : Bool := allB 4 (labsKept t) && (!(!(t.state == 1) && !decide (t.wait = Wt.zero)) && (kept t.clear && (leqR l t.clear && (decide (t.state ≥ 0) && (decide (t.state ≤ 2) && (decide ((t.alerts.length : Int) ≤ 8) && spanFit t.span))))))
theorem r13_thread (l : List Pr) (t : Th) (hl : l.length ≤ 9223372036854775807) (ha : t.L) : Pure Tryz.prog 105 [.sl (l.map Pr.enc), .agg (Th.enc t)] (.bool (q8f l t)) := by
  refine q2p (by kernel_rfl) (by simp only [go_sem, *]) (by simp only [go_sem, *]) Tryz.func105 Tryz.results105 rfl (by simp [Tryz.ntmps105]) (by kernel_rfl) ?_
  obtain ⟨l1, l2, l3⟩ := ha
  repeat' (first | (show q0i ..; first | refine q0c ?_ | refine q0e rfl ?_) | (show q0k ..; refine q0f rfl rfl ?_) | (show goOn ..; first | refine q0g ?_ | refine q1d ?_) | (show q0d ..; first | refine q0h ?_ | refine q0b ?_ | refine q0m ?_) | refine q0a ?_)
  refine q2l (S := Nat) (fun n => 4 - n) (fun n => n ≤ 4 ∧ ∀ j, j < n → labsKept t j = true) (fun n => [(0, .sl (l.map Pr.enc)), (3, .ptr 0 0), (5, .int .i64 n)]) (fun _ => [(0, .box (Th.enc t))]) (fun _ => 1) 0 ⟨Nat.zero_le _, fun j hj => absurd hj (Nat.not_lt_zero j)⟩ (by (refine q1l ?_ ?_ <;> repeat' (first | exact q0v | exact q0y | refine q0p (by (try simp only [go_sem, *]); try rfl) (by simp only [go_sem, *]) ?_ | refine q0z (by (try simp only [go_sem, *]); try rfl) (by omega) (by simp only [go_sem, *]) ?_ | refine q0x (by (try simp only [go_sem, *]); try rfl) (by omega) (by simp only [go_sem, *]) ?_))) ?_
  rintro n ⟨hn, hs⟩
  have no : ∀ i, i < 4 → labsKept t i = false → q8f l t = false := fun i hi h => by unfold q8f; rw [q2o hi h]; rfl
  rcases (by omega : n = 0 ∨ n = 1 ∨ n = 2 ∨ n = 3 ∨ n = 4) with rfl | rfl | rfl | rfl | rfl
  · have k := l3 0 (by omega)
    simp only [c0]
    repeat' (first | (show q0i ..; first | refine q0c ?_ | refine q0e rfl ?_) | (show q0k ..; first | refine q0f rfl rfl ?_ | refine q0l rfl ?_) | (show goOn ..; refine q0g ?_) | (show q1k ..; (refine q0r (r := ?_) ?_ ?_; rotate_left 1; (focus exact q6t _ k))) | (show q0d ..; first | refine q0h ?_ | refine q0b ?_ | refine q0t ?_ | refine q0s ?_ | refine q0m ?_ | refine q0j ?_) | (show q0o ..; first | refine cd_t ?_ | refine cd_n (fun _ => ?_) (fun _ => ?_)) | refine q0a ?_ | refine q2j ?_ | refine q0q ?_ | refine q3k ?_ | (show retQ ..; refine q0u ?_) | refine q0n ?_)
    all_goals rename_i hc
    · exact q1u (no 0 (by omega) hc).symm
    · exact again 1 ⟨by omega, q5d hs hc⟩ (by omega) (by (refine q1l ?_ ?_ <;> repeat' (first | exact q0v | exact q0y | refine q0p (by (try simp only [go_sem, *]); try rfl) (by simp only [go_sem, *]) ?_ | refine q0z (by (try simp only [go_sem, *]); try rfl) (by omega) (by simp only [go_sem, *]) ?_ | refine q0x (by (try simp only [go_sem, *]); try rfl) (by omega) (by simp only [go_sem, *]) ?_)))
  · have k := l3 1 (by omega)
    simp only [c1]
    repeat' (first | (show q0i ..; first | refine q0c ?_ | refine q0e rfl ?_) | (show q0k ..; first | refine q0f rfl rfl ?_ | refine q0l rfl ?_) | (show goOn ..; refine q0g ?_) | (show q1k ..; (refine q0r (r := ?_) ?_ ?_; rotate_left 1; (focus exact q6t _ k))) | (show q0d ..; first | refine q0h ?_ | refine q0b ?_ | refine q0t ?_ | refine q0s ?_ | refine q0m ?_ | refine q0j ?_) | (show q0o ..; first | refine cd_t ?_ | refine cd_n (fun _ => ?_) (fun _ => ?_)) | refine q0a ?_ | refine q2j ?_ | refine q0q ?_ | refine q3k ?_ | (show retQ ..; refine q0u ?_) | refine q0n ?_)
    all_goals rename_i hc
    · exact q1u (no 1 (by omega) hc).symm
    · exact again 2 ⟨by omega, q5d hs hc⟩ (by omega) (by (refine q1l ?_ ?_ <;> repeat' (first | exact q0v | exact q0y | refine q0p (by (try simp only [go_sem, *]); try rfl) (by simp only [go_sem, *]) ?_ | refine q0z (by (try simp only [go_sem, *]); try rfl) (by omega) (by simp only [go_sem, *]) ?_ | refine q0x (by (try simp only [go_sem, *]); try rfl) (by omega) (by simp only [go_sem, *]) ?_)))
  · have k := l3 2 (by omega)
    simp only [c2]
    repeat' (first | (show q0i ..; first | refine q0c ?_ | refine q0e rfl ?_) | (show q0k ..; first | refine q0f rfl rfl ?_ | refine q0l rfl ?_) | (show goOn ..; refine q0g ?_) | (show q1k ..; (refine q0r (r := ?_) ?_ ?_; rotate_left 1; (focus exact q6t _ k))) | (show q0d ..; first | refine q0h ?_ | refine q0b ?_ | refine q0t ?_ | refine q0s ?_ | refine q0m ?_ | refine q0j ?_) | (show q0o ..; first | refine cd_t ?_ | refine cd_n (fun _ => ?_) (fun _ => ?_)) | refine q0a ?_ | refine q2j ?_ | refine q0q ?_ | refine q3k ?_ | (show retQ ..; refine q0u ?_) | refine q0n ?_)
    all_goals rename_i hc
    · exact q1u (no 2 (by omega) hc).symm
    · exact again 3 ⟨by omega, q5d hs hc⟩ (by omega) (by (refine q1l ?_ ?_ <;> repeat' (first | exact q0v | exact q0y | refine q0p (by (try simp only [go_sem, *]); try rfl) (by simp only [go_sem, *]) ?_ | refine q0z (by (try simp only [go_sem, *]); try rfl) (by omega) (by simp only [go_sem, *]) ?_ | refine q0x (by (try simp only [go_sem, *]); try rfl) (by omega) (by simp only [go_sem, *]) ?_)))
  · have k := l3 3 (by omega)
    simp only [c3]
    repeat' (first | (show q0i ..; first | refine q0c ?_ | refine q0e rfl ?_) | (show q0k ..; first | refine q0f rfl rfl ?_ | refine q0l rfl ?_) | (show goOn ..; refine q0g ?_) | (show q1k ..; (refine q0r (r := ?_) ?_ ?_; rotate_left 1; (focus exact q6t _ k))) | (show q0d ..; first | refine q0h ?_ | refine q0b ?_ | refine q0t ?_ | refine q0s ?_ | refine q0m ?_ | refine q0j ?_) | (show q0o ..; first | refine cd_t ?_ | refine cd_n (fun _ => ?_) (fun _ => ?_)) | refine q0a ?_ | refine q2j ?_ | refine q0q ?_ | refine q3k ?_ | (show retQ ..; refine q0u ?_) | refine q0n ?_)
    all_goals rename_i hc
    · exact q1u (no 3 (by omega) hc).symm
    · exact again 4 ⟨by omega, q5d hs hc⟩ (by omega) (by (refine q1l ?_ ?_ <;> repeat' (first | exact q0v | exact q0y | refine q0p (by (try simp only [go_sem, *]); try rfl) (by simp only [go_sem, *]) ?_ | refine q0z (by (try simp only [go_sem, *]); try rfl) (by omega) (by simp only [go_sem, *]) ?_ | refine q0x (by (try simp only [go_sem, *]); try rfl) (by omega) (by simp only [go_sem, *]) ?_)))
  · have hall : allB 4 (labsKept t) = true := q2m hs
    simp only [c4]
    repeat' (first | (show q0i ..; first | refine q0c ?_ | refine q0e rfl ?_ | refine q1a rfl rfl ?_) | (show q0k ..; first | refine q0f rfl rfl ?_ | refine q0l rfl ?_) | (show goOn ..; refine q0g ?_) | (show q1k ..; (refine q0r (r := ?_) ?_ ?_; rotate_left 1; (focus first | exact q6t _ l1 | exact r2_leq _ _ hl l1 | exact r7_fit _))) | (show wGo ..; first | refine q3h ?_ | refine q3r ?_ | refine gw_tn (fun _ => ?_) (fun _ => ?_) | refine q9r (fun _ => ?_) (fun _ => ?_)) | (show q0d ..; first | refine q0h ?_ | refine q0b ?_ | refine q0t ?_ | refine q0s ?_ | refine q1s ?_ | refine q0j ?_) | (show q0o ..; first | refine cd_f ?_ | refine cd_n (fun _ => ?_) (fun _ => ?_)) | refine q0a ?_ | refine q2j ?_ | refine q1r ?_ | refine q1t ?_ | (show retQ ..; refine q0u ?_) | refine q0n ?_)
    all_goals (refine q1u ?_; unfold q8f; simp only [*, Bool.not_true, Bool.not_false, Bool.and_true, Bool.true_and, Bool.and_false, Bool.false_and, Bool.or_true, Bool.true_or, Bool.or_false, Bool.false_or, Bool.and_self, Bool.or_self, decide_true, decide_false, Bool.not_not, if_true, if_false, Bool.false_eq_true, eq_self])
/-- An object's head with its kind's own. -/
def q6p (o : Ob) : Ob :=
  if (o.kind == 1) = true then { Ob.zero with id := o.id, kind := o.kind, label := o.label, quota := o.quota, fixed := o.fixed, data := o.data }
  else if (o.kind == 2) = true then { Ob.zero with id := o.id, kind := o.kind, label := o.label, quota := o.quota, fixed := o.fixed, links := o.links }
  else if (o.kind == 3) = true then { Ob.zero with id := o.id, kind := o.kind, label := o.label, quota := o.quota, fixed := o.fixed, maps := o.maps }
  else if (o.kind == 4) = true then { Ob.zero with id := o.id, kind := o.kind, label := o.label, quota := o.quota, fixed := o.fixed, thread := o.thread }
  else if (o.kind == 5) = true then { Ob.zero with id := o.id, kind := o.kind, label := o.label, quota := o.quota, fixed := o.fixed, gate := o.gate }
  else if (o.kind == 6) = true then { Ob.zero with id := o.id, kind := o.kind, label := o.label, quota := o.quota, fixed := o.fixed, inn := o.inn, out := o.out }
  else { Ob.zero with id := o.id, kind := o.kind, label := o.label, quota := o.quota, fixed := o.fixed }
theorem r13_alone (o : Ob) (ha : o.L) : Pure Tryz.prog 102 [.agg (Ob.enc o)] (.bool (q8c (q6p o) o)) := by
  refine q2p (by kernel_rfl) (by simp only [go_sem, *]) (by simp only [go_sem, *]) Tryz.func102 Tryz.results102 rfl (by simp [Tryz.ntmps102]) (by kernel_rfl) ?_
  repeat' (first | (show q0i ..; first | refine q0c ?_ | refine q0e rfl ?_) | (show q0k ..; first | refine q0f rfl rfl ?_ | refine q0l rfl ?_) | (show goOn ..; first | refine q0g ?_ | refine q1d ?_ | refine q1x ?_) | (show q2w ..; refine q1h ?_) | (show q1k ..; (refine q0r (r := ?_) ?_ ?_; rotate_left 1; (focus first | (refine q5m _ _ (Ob.partL ha _ ?_ ?_ ?_ ?_ ?_ ?_ ?_ ?_) <;> (first | exact .inl rfl | exact .inr rfl))))) | (show q0d ..; first | refine q0h ?_ | refine q0b ?_ | refine q0t ?_ | refine q0s ?_ | refine q0m ?_ | refine q0j ?_) | (show q0o ..; refine cd_b (fun _ => ?_) (fun _ => ?_)) | refine q0a ?_ | refine q0q ?_ | (show retQ ..; refine q0u ?_) | refine q0n ?_)
  all_goals (refine q1u ?_; unfold q6p; simp only [*, if_true, if_false, Bool.false_eq_true]; try rfl)
def inner (o : Ob) : Bool :=
  if (o.kind == 1) = true then decide ((o.data.length : Int) ≤ IntKind.i64.wrap (16 * IntKind.i64.wrap (o.quota - 1)))
  else if (o.kind == 2) = true then decide ((o.links.length : Int) ≤ 64) && allB o.links.length (risAt o.links)
  else if (o.kind == 3) = true then mapFit o.maps
  else if (o.kind == 4) = true then q8f o.label o.thread && !o.fixed
  else if (o.kind == 5) = true then kept o.gate.grant && (kept o.gate.clear && leqR o.gate.grant o.gate.clear)
  else decide ((o.inn.length : Int) ≤ 64) && decide ((o.out.length : Int) ≤ 1024)
def q6j (o : Ob) : Bool := idOk o.id && (!decide (o.kind < 1) && (!decide (o.kind > 6) && (kept o.label && (!decide (o.quota < 1) && (!decide (o.quota > 4096) && q8c (q6p o) o)))))
def sound (o : Ob) : Bool := q6j o && (((o.kind == 4) || !decide (((own o.label).length : Int) > 0)) && inner o)
theorem r13_sound (o : Ob) (ha : o.L) (hl : o.label.length ≤ 900000) : Pure Tryz.prog 49 [.agg (Ob.enc o)] (.bool (sound o)) := by
  refine q2p (by kernel_rfl) (by simp only [go_sem, *]) (by simp only [go_sem, *]) Tryz.func49 Tryz.results49 rfl (by simp [Tryz.ntmps49]) (by kernel_rfl) ?_
  obtain ⟨l1, l2, l3, l4, l5, ⟨g1, g2⟩, l7, l8⟩ := id ha
  repeat' (first | (show q0i ..; first | refine q0c ?_ | refine q0e rfl ?_ | refine q1a rfl rfl ?_) | (show q0k ..; first | refine q0f rfl rfl ?_ | refine q0l rfl ?_) | (show goOn ..; first | refine q0g ?_ | refine q1d ?_) | (show q1k ..; (refine q0r (r := ?_) ?_ ?_; rotate_left 1; (focus first | exact r13_id _ | exact q6t _ l1 | exact r13_alone _ ha | exact r2_owned _ hl | exact r13_rising _ l2 | exact r12_fit _ l4 | exact r13_thread _ _ l1 l5 | exact q6t _ g1 | exact q6t _ g2 | exact r2_leq _ _ g1 g2))) | (show wGo ..; first | refine q3h ?_ | refine q4b ?_ | refine q3r ?_ | refine q4y ?_ | refine gw_tn (fun _ => ?_) (fun _ => ?_) | refine q9s (fun _ => ?_) (fun _ => ?_) | refine q9r (fun _ => ?_) (fun _ => ?_) | refine gw_fb (fun _ => ?_) (fun _ => ?_)) | (show q0d ..; first | refine q0h ?_ | refine q0b ?_ | refine q0t ?_ | refine q0s ?_ | refine q0m ?_ | refine q0j ?_) | (show q0o ..; first | refine cd_t ?_ | refine cd_f ?_ | refine cd_n (fun _ => ?_) (fun _ => ?_) | refine cd_b (fun _ => ?_) (fun _ => ?_)) | refine q0a ?_ | refine q2j ?_ | refine q0q ?_ | refine q3k ?_ | (show retQ ..; refine q0u ?_) | refine q0n ?_)
  all_goals (refine q1u ?_; unfold sound q6j inner; try simp only [*, Bool.not_true, Bool.not_false, Bool.and_true, Bool.true_and, Bool.and_false, Bool.false_and, Bool.or_true, Bool.true_or, Bool.or_false, Bool.false_or, Bool.and_self, Bool.or_self, decide_true, decide_false, Bool.not_not, if_true, if_false, Bool.false_eq_true, eq_self])
end Go.Proofs.YtoibbedpaaeclaaGreat
end

section
namespace Go.Proofs.YtoibbedpaaeclaaGreat
open Go Go.RowKit
set_option linter.unusedVariables false
set_option linter.unusedSimpArgs false
set_option maxHeartbeats 16000000
set_option maxRecDepth 100000
attribute [local irreducible] q0i dr q0d Ex.then Ex.inBlock retQ q1n q2d q2c Pure CSat evOp q1i rdOf upd hset strip sp0 cut envL q1g q3i Keep BdL evBs q2n q2s
theorem obj_idOf (o : Ob) : Pure Tryz.prog 168 [.agg (Ob.enc o)] (.int .u64 o.id) := by
  refine q2p (by kernel_rfl) (by simp only [go_sem, *]) (by simp only [go_sem, *]) Tryz.func168 Tryz.results168 rfl (by simp [Tryz.ntmps168]) (by kernel_rfl) ?_
  repeat' (first | (show q0i ..; first | refine q0c ?_ | refine q0e rfl ?_) | (show q0k ..; refine q0f rfl rfl ?_) | (show goOn ..; first | refine q0g ?_ | refine q1d ?_) | (show q0d ..; first | refine q0h ?_ | refine q0b ?_ | refine q0t ?_) | refine q0a ?_ | (show retQ ..; refine q0u ?_) | refine q0n ?_)
  all_goals rfl
end Go.Proofs.YtoibbedpaaeclaaGreat
end
