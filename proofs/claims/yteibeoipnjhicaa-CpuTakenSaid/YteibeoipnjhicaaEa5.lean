import Derived.Test.YteibeoipnjhicaaEa4
namespace Go.Proofs.Yteibeoipnjhicaa
open Go Go.RowKit
set_option linter.unusedVariables false
set_option linter.unusedSimpArgs false
set_option maxHeartbeats 8000000
set_option maxRecDepth 100000
attribute [local irreducible] pwOps dr pwCode Ex.then Ex.inBlock retQ okAll drawOk Pure CSat evOp calleeP rdOf upd hset strip sp0 cut envL heapL Again Keep BdL evBs AgainK KeepK
/-! The document's answers: label order, maps, threads. -/
def labGet (l : List Pr) (c : Int) : Int := match l.find? (fun p => p.cat == c) with
  | some p => p.lev
  | none => 2
theorem find_at {α : Type} {p : α → Bool} {l : List α} {n : Nat} {x : α} (hx : l[n]? = some x) (hp : p x = true) (h : ∀ j, j < n → ∀ y, l[j]? = some y → p y = false) : l.find? p = some x := by
  rw [List.find?_eq_some_iff_getElem]
  obtain ⟨hn, e⟩ := List.getElem?_eq_some_iff.1 hx
  refine ⟨hp, n, hn, e, fun j hj => ?_⟩
  rw [h j hj _ (List.getElem?_eq_getElem (by omega))]; rfl
theorem find_none {α : Type} {p : α → Bool} {l : List α} {n : Nat} (hn : l.length ≤ n) (h : ∀ j, j < n → ∀ y, l[j]? = some y → p y = false) : l.find? p = none := by
  rw [List.find?_eq_none]
  intro x hx
  obtain ⟨j, hj⟩ := List.getElem?_of_mem hx
  rw [h j (by have := len_lt hj; omega) x hj]; exact Bool.false_ne_true
theorem none_to {α : Type} {p : α → Bool} {l : List α} {n : Nat} {x : α} (hx : l[n]? = some x) (h : ∀ j, j < n → ∀ y, l[j]? = some y → p y = false) (hp : p x = false) : ∀ j, j < n + 1 → ∀ y, l[j]? = some y → p y = false := by
  intro j hj y hy
  rcases Nat.lt_or_ge j n with h1 | h1
  · exact h j h1 y hy
  · have : j = n := by omega
    subst this
    rw [hx] at hy; rw [← Option.some.inj hy]; exact hp
def leqAt (a b : List Pr) (k : Nat) : Bool := match a[k]? with
  | some x => levLeq x.lev (labGet b x.cat)
  | none => true
def geqAt (a b : List Pr) (k : Nat) : Bool := match b[k]? with
  | some x => levLeq (labGet a x.cat) x.lev
  | none => true
def leqR (a b : List Pr) : Bool := allB a.length (leqAt a b) && allB b.length (geqAt a b)
def mapOne (m : Mp) : Bool := decide (m.va ≥ 0) && (decide (m.va < 1048576) && (decide (m.off ≥ 0) && (decide (m.off < 1048576) && (decide (m.n ≥ 1) && (decide (m.n ≤ 1048576) && (decide (m.n ≤ IntKind.i64.wrap (1048576 - m.va)) && decide (m.n ≤ IntKind.i64.wrap (1048576 - m.off))))))))
def mapAt (l : List Mp) (k : Nat) : Bool := match l[k]? with
  | none => true
  | some x => mapOne x && (match k with
    | 0 => true
    | j + 1 => match l[j]? with
      | some y => !decide (IntKind.i64.wrap (y.va + y.n) > x.va)
      | none => true)
def mapFit (l : List Mp) : Bool := decide (l.length ≤ 16) && allB l.length (mapAt l)
end Go.Proofs.Yteibeoipnjhicaa
