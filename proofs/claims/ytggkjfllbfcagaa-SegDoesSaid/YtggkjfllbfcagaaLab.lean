import Derived.Test.YtggkjfllbfcagaaBase
namespace Go.Proofs.Ytggkjfllbfcagaa
open Go Go.RowKit Go.Proofs.YtggkjfllbfcagaaW.PrintWords Go.Proofs.YtggkjfllbfcagaaW.PrintLast Go.Proofs.YtggkjfllbfcagaaW.PrintMore
set_option linter.unusedVariables false
/-- A label: categories with levels. -/
abbrev Lab := List (Int × Int)
def kPr : Kd (Int × Int) := Kd.pair (Kd.int .u64) (Kd.int .i64)
theorem kPr_open {w : World} {x : Int × Int} {cs : List Value} (h : kPr.K w x cs) : cs = [.int .u64 x.1, .int .i64 x.2] := by
  obtain ⟨c0, c1, rfl, h0, h1⟩ := h
  have e0 : c0 = [.int .u64 x.1] := h0
  have e1 : c1 = [.int .i64 x.2] := h1
  rw [e0, e1]; rfl
theorem kPr_mk (w : World) (x : Int × Int) : kPr.K w x [.int .u64 x.1, .int .i64 x.2] := ⟨[.int .u64 x.1], [.int .i64 x.2], rfl, rfl, rfl⟩
theorem kPr_mkM (w : World) (base : Nat) (ok : Nat → Prop) (x : Int × Int) : kPr.M w base ok x [.int .u64 x.1, .int .i64 x.2] := ⟨[.int .u64 x.1], [.int .i64 x.2], rfl, rfl, rfl⟩
/-- The cells of a label's element. -/
theorem lab_at {w : World} {A : Option Addr} {l : Lab} (h : kPr.C w A l.length l) (i : Nat) (hi : i < l.length) :
    ∃ ad, A = some ad ∧ w.cell? (ad.add (i * 2)) = some (.int .u64 l[i].1) ∧ w.cell? ⟨(ad.add (i * 2)).block, (ad.add (i * 2)).off + 1, none⟩ = some (.int .i64 l[i].2) := by
  obtain ⟨ad, c, e, _, hk, hc⟩ := Kd.C_get h (0, 0) (i : Int) (by omega) (by omega)
  have hx : l.getD (i : Int).toNat (0, 0) = l[i] := by simp [hi]
  rw [hx] at hk
  obtain rfl := kPr_open hk
  refine ⟨ad, e, by simpa [kPr, Kd.pair, Kd.int, Kd.scalar] using hc 0 _ rfl, ?_⟩
  have h1 := hc 1 _ rfl
  rw [Int.toNat_natCast, add_field _ _ _ (by omega)] at h1
  exact h1
theorem lab_head {w : World} {A : Option Addr} {p : Int × Int} {t : Lab} (h : kPr.C w A (p :: t).length (p :: t)) :
    ∃ ad, A = some ad ∧ w.cell? ad = some (.int .u64 p.1) ∧ w.cell? ⟨ad.block, ad.off + 1, none⟩ = some (.int .i64 p.2) := by
  obtain ⟨ad, e, h0, h1⟩ := lab_at h 0 (by simp)
  have hz : ad.add 0 = ad := by unfold Addr.add; simp
  rw [Nat.zero_mul, hz] at h0 h1
  exact ⟨ad, e, h0, h1⟩
theorem lab_tail {w : World} {A : Option Addr} {c : Nat} {p : Int × Int} {t : Lab} (h : kPr.C w A (p :: t).length (p :: t)) (hc : (p :: t).length ≤ c) :
    kPr.C w (if c = 1 then A else A.map (·.add 2)) t.length t := Kd.C_drop (m := 1) (c := c) h (by simp) hc
theorem lab_max {w : World} {A : Option Addr} {l : Lab} (h : kPr.C w A l.length l) : l.length ≤ 9223372036854775807 := Kd.C_max h
/-- Two labels, category by category: the levels in both. -/
def mergeB : Lab → Lab → List (Int × (Int × Int))
  | [], [] => []
  | p :: a, [] => (p.1, (p.2, 2)) :: mergeB a []
  | [], q :: b => (q.1, (2, q.2)) :: mergeB [] b
  | p :: a, q :: b => if p.1 < q.1 then (p.1, (p.2, 2)) :: mergeB a (q :: b) else if q.1 < p.1 then (q.1, (2, q.2)) :: mergeB (p :: a) b else (q.1, (p.2, q.2)) :: mergeB a b
termination_by a b => a.length + b.length
end Go.Proofs.Ytggkjfllbfcagaa
