import Derived.Test.YteibeoipnjhicaaGreatEnw
namespace Go.Proofs.YteibeoipnjhicaaGreat
open Go Go.RowKit
set_option linter.unusedVariables false
set_option linter.unusedSimpArgs false
theorem q3f (k : Nat) (h : k < 9223372036854775807) : IntKind.i64.wrap ((k : Int) + 1) = ((k + 1 : Nat) : Int) := by
  rw [IntKind.wrap_i64]; omega
theorem wrap_prev (k : Nat) (h : k < 9223372036854775807) : IntKind.i64.wrap (((k + 1 : Nat) : Int) - 1) = (k : Int) := by
  rw [IntKind.wrap_i64]; omega
theorem gt_prev (k : Nat) : decide (((k + 1 : Nat) : Int) > 0) = true := decide_eq_true (by omega)
@[go_sem] theorem gt_zero : decide (((0 : Nat) : Int) > 0) = false := rfl
@[go_sem] theorem wrap_lit {n : Int} (h1 : -9223372036854775808 ≤ n) (h2 : n ≤ 9223372036854775807) : IntKind.i64.wrap n = n := by rw [IntKind.wrap_i64]; omega
theorem q3d {α : Type} {l : List α} {k : Nat} (h : k < l.length) : ∃ x, l[k]? = some x := ⟨l[k], by simp [h]⟩
theorem q4t {α : Type} {l : List α} {k : Nat} {x : α} (h : l[k]? = some x) : k < l.length := (List.getElem?_eq_some_iff.1 h).1
theorem q3k {k n : Nat} (h : k < n) : decide ((k : Int) < (n : Int)) = true := decide_eq_true (by omega)
theorem q3a {k n : Nat} (h : n ≤ k) : decide ((k : Int) < (n : Int)) = false := decide_eq_false (by omega)
theorem q4v {α : Type} {l : List α} {k : Nat} {x : α} (h : l[k]? = some x) : l.take (k + 1) = l.take k ++ [x] := by
  rw [List.take_add_one, h]; rfl
theorem c0 : ((0 : Nat) : Int) = 0 := rfl
theorem c1 : ((1 : Nat) : Int) = 1 := rfl
theorem c2 : ((2 : Nat) : Int) = 2 := rfl
theorem c3 : ((3 : Nat) : Int) = 3 := rfl
@[go_sem] theorem c16 : ((16 : Nat) : Int) = 16 := rfl
@[go_sem] theorem c4 : ((4 : Nat) : Int) = 4 := rfl
@[go_sem] theorem cut_drop {P : Program} {t : TypeId} {l : List PV} {o : Nat} (h : o ≤ l.length) : cut P t (l.drop o) 0 = cut P t l o := by
  unfold cut
  cases aggT P t with
  | none => rfl
  | some b =>
    cases b with
    | true =>
      simp only [List.length_drop, Nat.zero_add, List.drop_zero]
      by_cases h1 : o + P.cellsOf t ≤ l.length
      · rw [if_pos h1, if_pos (by omega)]
      · rw [if_neg h1, if_neg (by omega)]
    | false => simp
attribute [go_sem] List.drop_zero List.drop_drop
def allB (n : Nat) (f : Nat → Bool) : Bool := (List.range n).all f
theorem q3u {n : Nat} {f : Nat → Bool} (h : ∀ j, j < n → f j = true) : allB n f = true := by simp only [allB, List.all_eq_true, List.mem_range]; exact h
theorem q3o {n k : Nat} {f : Nat → Bool} (hk : k < n) (h : f k = false) : allB n f = false := by
  rw [Bool.eq_false_iff]
  intro e
  simp only [allB, List.all_eq_true, List.mem_range] at e
  rw [e k hk] at h; cases h
theorem allB_iff {n : Nat} {f : Nat → Bool} : allB n f = true ↔ ∀ j, j < n → f j = true := by simp only [allB, List.all_eq_true, List.mem_range]
theorem q5u {n : Nat} {f : Nat → Bool} (h : ∀ j, j < n → f j = true) (k : f n = true) : ∀ j, j < n + 1 → f j = true := by
  intro j hj
  rcases Nat.lt_or_ge j n with h1 | h1
  · exact h j h1
  · have : j = n := by omega
    subst this; exact k
theorem q2s {a b : Bool} (h : a = b) : Out.ret (.bool a) = Out.ret (.bool b) := by rw [h]
theorem again {S : Type} {m0 : Nat} {μ : S → Nat} {Inv : S → Prop} {E : S → List (Nat × PV)} {G : S → List (Nat × HE)} {mm : S → Nat} {s : S} {env : Env} {H : Heap} {m : Nat} (s' : S) (h2 : Inv s') (h1 : μ s' < μ s) (h3 : Keep m0 env H m (E s') (G s') (mm s')) : q4j m0 μ Inv E G mm s env H m := ⟨s', h1, h2, h3⟩
def accV {α : Type} (id : Nat) : List α → PV
  | [] => .nilsl
  | a :: l => .gr id (l.length + 1)
def accG {α : Type} (id e sz : Nat) (f : α → List PV) : List α → List (Nat × HE)
  | [] => []
  | a :: l => [(id, .row e sz (List.map f (a :: l)))]
def accM {α : Type} (b id : Nat) : List α → Nat
  | [] => b
  | a :: l => id + 1
theorem q2w {α : Type} (id : Nat) : accV id ([] : List α) = .nilsl := rfl
theorem q2y {α : Type} (id e sz : Nat) (f : α → List PV) : accG id e sz f [] = [] := rfl
theorem q2x {α : Type} (b id : Nat) : accM b id ([] : List α) = b := rfl
theorem q3q {α : Type} {id : Nat} {l : List α} (h : l ≠ []) : accV id l = .gr id l.length := by cases l with
  | nil => exact absurd rfl h
  | cons a l => rfl
theorem q3s {α : Type} {id e sz : Nat} {f : α → List PV} {l : List α} (h : l ≠ []) : accG id e sz f l = [(id, .row e sz (List.map f l))] := by cases l with
  | nil => exact absurd rfl h
  | cons a l => rfl
theorem q3r {α : Type} {b id : Nat} {l : List α} (h : l ≠ []) : accM b id l = id + 1 := by cases l with
  | nil => exact absurd rfl h
  | cons a l => rfl
theorem snoc_ne {α : Type} (l : List α) (x : α) : l ++ [x] ≠ [] := by simp
theorem q3h {α : Type} (id : Nat) (l : List α) (x : α) : accV id (l ++ [x]) = .gr id (l.length + 1) := by rw [q3q (snoc_ne l x)]; simp
theorem q3j {α : Type} (id e sz : Nat) (f : α → List PV) (l : List α) (x : α) : accG id e sz f (l ++ [x]) = [(id, .row e sz (List.map f (l ++ [x])))] := q3s (snoc_ne l x)
theorem q3i {α : Type} (b id : Nat) (l : List α) (x : α) : accM b id (l ++ [x]) = id + 1 := q3r (snoc_ne l x)
@[go_sem] theorem one_max : (1 ≤ maxLen) = True := by simp [maxLen]
theorem app_max {k : Nat} (h : k < 1000000) : (k + 1 ≤ maxLen) = True := by simp [maxLen]; omega
theorem app_by {k b : Nat} (h : k < 1000000) (hb : b ≤ 1000) : ((k + 1) * b ≤ 140737488355328) = True := by
  rw [eq_iff_iff, iff_true]
  exact Nat.le_trans (Nat.mul_le_mul (by omega : k + 1 ≤ 1000000) hb) (by decide)
theorem q4o {α : Type} (l : List α) : l = [] ∨ l ≠ [] := by cases l <;> simp
end Go.Proofs.YteibeoipnjhicaaGreat
