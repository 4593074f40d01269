import Derived.Test.YtoibbedpaaeclaaGreatRz8
import Derived.Test.YtoibbedpaaeclaaGreatProg
import Derived.Lib.Hide
import Derived.Test.YtoibbedpaaeclaaGreatRz9
import Derived.Below
import Derived.Deep.Draws
import Derived.Deep.AppendLies
import Derived.Maps.AppendAt
import Derived.OwnWalk
import Derived.Laws.BytesArg
import Derived.Laws.MakeOwn
import Derived.Laws.OwnMore
import Derived.Deep.OwnRows
import Derived.Tactics
import Derived.Lib.ConvBytes
import Derived.Laws.Slices
import Derived.WalkKit
import Derived.KernelRfl
import Derived.RowKit3
import Derived.Deep.LoopGhost
import Derived.Deep.QuietTactic
import Derived.BigQuiet
import Derived.WideLaws
import Derived.Deep.DeepCutAuto
import Derived.Deep.CutBlock
import Derived.Deep.RegionHeld3
import Derived.Laws.Rows
import Derived.Lib.AppendStr
import Derived.ArgAppend
import Derived.Laws.IdiomCopy
import Derived.OrdersHeld
import Derived.Laws.BitsLemmas
import Derived.RowKit
import Derived.Test.YtoibbedpaaeclaaGreatSW0
import Derived.Test.YtoibbedpaaeclaaGreatRz6
import Derived.Test.YtoibbedpaaeclaaGreatRz7
section
namespace Go.Proofs.YtoibbedpaaeclaaGreat
open Go Go.RowKit Go.Shelf
set_option linter.unusedVariables false
set_option linter.unusedSimpArgs false
end Go.Proofs.YtoibbedpaaeclaaGreat
end

section
namespace Go.Proofs.YtoibbedpaaeclaaGreat
open Go Go.RowKit
set_option linter.unusedVariables false
set_option linter.unusedSimpArgs false
set_option maxHeartbeats 16000000
set_option maxRecDepth 100000
/-- What has been written so far. -/
def gk (f : Nat → Int) (k : Nat) : Nat → Int := fun i => if i < k then f i else 0
attribute [local irreducible] q0i dr q0d Ex.then Ex.inBlock retQ q1n q2d q2c Pure CSat evOp q1i rdOf upd hset strip sp0 cut envL q1g q3i Keep BdL evBs q2n q2s
end Go.Proofs.YtoibbedpaaeclaaGreat
end

section
namespace Go.Proofs.YtoibbedpaaeclaaGreat
open Go Go.RowKit
set_option linter.unusedVariables false
set_option linter.unusedSimpArgs false
set_option maxHeartbeats 16000000
set_option maxRecDepth 100000
attribute [local irreducible] q0i dr q0d Ex.then Ex.inBlock retQ q1n q2d q2c Pure CSat evOp q1i rdOf upd hset strip sp0 cut envL q1g q3i Keep BdL evBs q2n q2s
end Go.Proofs.YtoibbedpaaeclaaGreat
end

section
namespace Go.Proofs.YtoibbedpaaeclaaGreat
open Go Go.RowKit
set_option linter.unusedVariables false
set_option linter.unusedSimpArgs false
set_option maxHeartbeats 16000000
set_option maxRecDepth 100000
attribute [local irreducible] q0i dr q0d Ex.then Ex.inBlock retQ q1n q2d q2c Pure CSat evOp q1i rdOf upd hset strip sp0 cut envL q1g q3i Keep BdL evBs q2n q2s
end Go.Proofs.YtoibbedpaaeclaaGreat
end

section
namespace Go.Proofs.YtoibbedpaaeclaaGreat
open Go Go.RowKit
set_option linter.unusedVariables false
set_option linter.unusedSimpArgs false
set_option maxHeartbeats 16000000
set_option maxRecDepth 100000
attribute [local irreducible] q0i dr q0d Ex.then Ex.inBlock retQ q1n q2d q2c Pure CSat evOp q1i rdOf upd hset strip sp0 cut envL q1g q3i Keep BdL evBs q2n q2s
theorem look_in {w : Wd} {t : Ob} {r : Rf} (hw : fitW w = true) (h : ((q8r w t r).2 == 0) = true) : (q8r w t r).1 ∈ w.objects := by
  unfold q8r at h ⊢
  split at h
  · rename_i h1
    rw [if_pos h1]
    split at h
    · rename_i h2
      rw [if_pos h2]
      obtain ⟨e1, e2, _⟩ := dir_found h1
      rw [e1] at h2
      obtain ⟨x, hx, hxi⟩ := List.any_eq_true.1 h2
      have : x = r.id := by simpa using hxi
      subst this
      exact (find_id (links_found hw (find_id e2).2 hx)).2
    · simp at h
  · rename_i h1; simp only at h; rw [h] at h1; exact absurd rfl h1
theorem see_in {w : Wd} {t : Ob} {r : Rf} {k : Int} (hw : fitW w = true) (h : ((seeR w t r k).2 == 0) = true) : (seeR w t r k).1 ∈ w.objects ∧ seesR t (seeR w t r k).1 = true ∧ (seeR w t r k).1 = (q8r w t r).1 := by
  unfold seeR at h ⊢
  split at h
  · rename_i h1
    rw [if_pos h1]
    split at h
    · rename_i h2
      rw [if_pos h2]
      split at h
      · rename_i h3; rw [if_pos h3]; exact ⟨look_in hw h1, h3, rfl⟩
      · cases h
    · cases h
  · rename_i h1; exact absurd h h1
end Go.Proofs.YtoibbedpaaeclaaGreat
end

section
namespace Go.Proofs.YtoibbedpaaeclaaGreat
open Go Go.RowKit
set_option linter.unusedVariables false
set_option linter.unusedSimpArgs false
set_option maxHeartbeats 16000000
set_option maxRecDepth 100000
section
variable {w x : Wd} {ρ : Ob → Ob}
end
end Go.Proofs.YtoibbedpaaeclaaGreat
end

section
namespace Go.Proofs.YtoibbedpaaeclaaGreat
open Go Go.RowKit
set_option linter.unusedVariables false
set_option linter.unusedSimpArgs false
set_option maxHeartbeats 16000000
set_option maxRecDepth 100000
theorem U_nat {n : Int} (h : U n) : ∃ k : Nat, k ≤ 18446744073709551615 ∧ n = (k : Int) := by
  have h1 : IntKind.u64.min = 0 := by decide
  have h2 : IntKind.u64.max = 18446744073709551615 := by decide
  unfold U at h
  exact ⟨n.toNat, by omega, by omega⟩
structure Good (x : Wd) : Prop where
  L : x.L
  few : FewW x
  fit : fitW x = true
attribute [local irreducible] q0i dr q0d Ex.then Ex.inBlock retQ q1n q2d q2c Pure CSat evOp q1i rdOf upd hset strip sp0 cut envL q1g q3i Keep BdL evBs q2n q2s
end Go.Proofs.YtoibbedpaaeclaaGreat
end

section
-- PRINTED by print.py (a twelfth state) out of the translation. Not trusted: Lean checks it.
namespace Go.Proofs.YtoibbedpaaeclaaGreat.PChk
open Go.RowKit Go.Proofs.YtoibbedpaaeclaaGreatW.PrintWords Go.Proofs.YtoibbedpaaeclaaGreatW.PrintLast Go.Proofs.YtoibbedpaaeclaaGreatW.PrintMore
attribute [local go_sem] max2_int min2_int max_two min_two max_three min_three max_four min_four -- for this text's walks alone
set_option linter.unusedVariables false
set_option linter.unusedSimpArgs false
def errW : Option Int → Value
  | none => .nilIface
  | some c => .iface 0 (.int .i64 c)
theorem errW_none : errW none = .nilIface := rfl
theorem errW_some (c : Int) : errW (some c) = .iface 0 (.int .i64 c) := rfl
-- the values' own types
structure S76 where
  f0 : Int
  f1 : Int
def z76 : S76 := ⟨(0 : Int), (0 : Int)⟩
def k76 : Kd S76 := Kd.iso (Kd.pair (Kd.int .u64) (Kd.int .i64)) (fun x : S76 => (x.f0, x.f1))
theorem k76_open {w : World} {x : S76} {cs : List Value} (h : k76.K w x cs) : cs = [.int .u64 x.f0, .int .i64 x.f1] := by
  obtain ⟨_, _, rfl, rfl, rfl⟩ := h
  exact rfl
def rd_T76 (xs : List S76) (i : Int) : S76 := xs.getD i.toNat z76
theorem at_T76 {w : World} {A : Option Addr} {n : Nat} {xs : List S76} (h : Kd.C k76 w A n xs) (i : Int) (h0 : 0 ≤ i) (h1 : i < n) : ∃ ad , A = some ad ∧ w.cell? (ad.add (i.toNat * 2)) = some (.int .u64 (rd_T76 xs i).f0) ∧ w.cell? ⟨(ad.add (i.toNat * 2)).block, (ad.add (i.toNat * 2)).off + 1, none⟩ = some (.int .i64 (rd_T76 xs i).f1) := by
  obtain ⟨ad, c, e, _, hK, hc0⟩ := Kd.C_get h z76 i h0 h1
  have hc : ∀ j u, c[j]? = some u → w.cell? (ad.add (i.toNat * 2 + j)) = some u := hc0
  obtain rfl := k76_open hK
  exact ⟨ad, e, hc 0 _ rfl, by rw [← add_field _ _ 1 (by omega)]; exact hc 1 _ rfl⟩
end Go.Proofs.YtoibbedpaaeclaaGreat.PChk
end

section
-- PRINTED by print.py (a twelfth state) out of the translation. Not trusted: Lean checks it.
namespace Go.Proofs.YtoibbedpaaeclaaGreat.PChk
open Go.RowKit Go.Proofs.YtoibbedpaaeclaaGreatW.PrintWords Go.Proofs.YtoibbedpaaeclaaGreatW.PrintLast Go.Proofs.YtoibbedpaaeclaaGreatW.PrintMore
attribute [local go_sem] max2_int min2_int max_two min_two max_three min_three max_four min_four -- for this text's walks alone
set_option linter.unusedVariables false
set_option linter.unusedSimpArgs false
def check_plain.l0 : Nat → List (S76) → Int → Int → Option (Bool)
  | 0, _, _, _ => none
  | k + 1, x5, x6, x7 => if x7 < x6 then (if 0 ≤ x7 then (if x7 < (x5.length : Int) then (if ((rd_T76 x5 x7).f1) = 5 then (some false) else (check_plain.l0 k x5 x6 (wrap64 (x7 + 1)))) else (none)) else (none)) else (some true)
def check_plain.f (k : Nat) (l0 : List (S76)) : Option (Bool) := check_plain.l0 k l0 (l0.length : Int) 0
set_option maxHeartbeats 8000000 in
set_option maxRecDepth 100000 in
theorem check_plain.calls (k : Nat) (A0 : Option Addr) (c0 : Nat) (l0 : List (S76)) (r : Bool) (w : World) (hr0 : Kd.C k76 w A0 l0.length l0) (hc0 : l0.length ≤ c0) (h : check_plain.f k l0 = some r) :
    Calls Tryz.prog 267 #[.slice A0 l0.length c0] w fun e w' => e = .returned (.bool r) ∧ Below w.heap.size w w' := by
  have hu76 := Tryz.underlying76
  have HR0 := Aside0.mk hr0
  have HC0 := Aside0.mk hc0
  clear hr0 hc0
  have HB := Aside0.mk (Below.refl w.heap.size w)
  have H : (check_plain.l0 k l0 (l0.length : Int) 0) = some r := h
  clear h
  have H' := Aside0.mk H
  clear H
  go_enter Tryz.func267, Tryz.ntmps267
  go_wp2
  go_loopg [7] k (fun kq v7 w' => ∃ (x7_1 : Int), v7 = .int .i64 x7_1 ∧ Aside0 (check_plain.l0 kq l0 (l0.length : Int) x7_1 = some r) ∧ Aside0 (kq ≤ k) ∧ Aside0 (Below w.heap.size w w'))
  case atStart => exact ⟨(0), (by first | rfl | (simp; done) | (simp [*]; done)), H', ⟨Nat.le_refl _⟩, ⟨by repeat (first | (with_reducible first | exact HB.out | apply below_alloc | apply pw_below_drewN | apply below_drew1) | exact HB.out)⟩⟩
  case round =>
    clear H'
    obtain ⟨x7_1, rfl, HA, HK1, HB⟩ := hrel
    cases gk with
    | zero => exact absurd HA.out (by simp [check_plain.l0])
    | succ k1 =>
      have H := HA.out
      clear HA
      simp only [check_plain.l0] at H
      by_cases c2 : x7_1 < (l0.length : Int)
      · rw [if_pos c2] at H
        have c2b0 : decide (x7_1 < (l0.length : Int)) = true := decide_eq_true c2
        clear c2
        by_cases c3 : 0 ≤ x7_1
        · rw [if_pos c3] at H
          have c3b0 : decide (0 ≤ x7_1) = true := decide_eq_true c3
          clear c3
          by_cases c4 : x7_1 < (l0.length : Int)
          · rw [if_pos c4] at H
            have c4b0 : decide (x7_1 < (l0.length : Int)) = true := decide_eq_true c4
            clear c4
            by_cases c5 : ((rd_T76 l0 x7_1).f1) = 5
            · rw [if_pos c5] at H
              have c5b0 : (((rd_T76 l0 x7_1).f1) == 5) = true := beq_iff_eq.mpr c5
              have c5b1 : (((rd_T76 l0 x7_1).f1) != 5) = false := bne_eq_false_iff_eq.mpr c5
              clear c5
              obtain rfl := Option.some.inj H
              have p101 : 0 ≤ (x7_1 : Int) := of_decide_eq_true (by first | (with_reducible assumption) | assumption)
              have q101 : x7_1 < (l0.length : Int) := of_decide_eq_true (by first | (with_reducible assumption) | assumption)
              obtain ⟨ad101, e101, hx101_0, hx101_1⟩ := at_T76 HR0.out x7_1 p101 q101
              cases e101
              replace hx101_0 := (HB.out.cell (World.block_lt_of_cell? w _ hx101_0)).trans hx101_0
              replace hx101_1 := (HB.out.cell (World.block_lt_of_cell? w _ hx101_1)).trans hx101_1
              replace p101 := eq_true p101
              replace q101 := eq_true q101
              go_wp2_with (first | ((with_reducible refine gate_dst (N := 4) rfl ?_); refine box_event ?hg (N := 4) ?hd (cs := #[.int .u64 0, .int .i64 0]) (t := 76) ?hr ?_; (case hd => rfl); (case hg => rfl); (case hr => first | (go_simp; done) | (go_simp; rfl)); intro gb102 hg w6 hbox hb; have n0_ := Aside0.mk (below_step (by repeat (first | (with_reducible first | exact HB.out | apply below_alloc | apply pw_below_drewN | apply below_drew1) | exact HB.out)) hb); have n1_ := Aside0.mk (hbox); have n2_ := Aside0.mk ((by rw [hg]; exact (below_size (by repeat (first | (with_reducible first | exact HB.out | apply below_alloc | apply pw_below_drewN | apply below_drew1) | exact HB.out))) : w.heap.size ≤ gb102)); have n3_ := Aside0.mk ((by rw [hg]; exact (below_size (by repeat (first | (with_reducible first | exact HB.out | apply below_alloc | apply pw_below_drewN | apply below_drew1) | exact HB.out))) : w.heap.size ≤ gb102)); clear HB; have HB := n0_; have BK102 := n1_; have GW102 := n2_; have GE102 := n3_; clear n0_ n1_ n2_ n3_; clear hb hbox hg; have hcz7_0 : w6.cell? ⟨gb102, 0, none⟩ = some (.int .u64 0) := (blk_cell BK102.out 0).trans rfl; have hcz7_1 : w6.cell? ⟨gb102, 1, none⟩ = some (.int .i64 0) := (blk_cell BK102.out 1).trans rfl; have hfz7_0 := blk_frozen BK102.out 0; have hfz7_1 := blk_frozen BK102.out 1))
              go_ret
              exact ⟨by first | rfl | (simp [errW_none, errW_some] <;> rfl) | (simp [*, errW_none, errW_some] <;> rfl), by repeat (first | (with_reducible first | exact HB.out | apply below_alloc | apply pw_below_drewN | apply below_drew1 | refine below_set ?_ GE102.out) | exact HB.out)⟩
            · rw [if_neg c5] at H
              have c5b0 : (((rd_T76 l0 x7_1).f1) == 5) = false := beq_eq_false_iff_ne.mpr c5
              have c5b1 : (((rd_T76 l0 x7_1).f1) != 5) = true := bne_iff_ne.mpr c5
              have H' := Aside0.mk H
              clear H
              have p101 : 0 ≤ (x7_1 : Int) := of_decide_eq_true (by first | (with_reducible assumption) | assumption)
              have q101 : x7_1 < (l0.length : Int) := of_decide_eq_true (by first | (with_reducible assumption) | assumption)
              obtain ⟨ad101, e101, hx101_0, hx101_1⟩ := at_T76 HR0.out x7_1 p101 q101
              cases e101
              replace hx101_0 := (HB.out.cell (World.block_lt_of_cell? w _ hx101_0)).trans hx101_0
              replace hx101_1 := (HB.out.cell (World.block_lt_of_cell? w _ hx101_1)).trans hx101_1
              replace p101 := eq_true p101
              replace q101 := eq_true q101
              go_wp2_with (first | ((with_reducible refine gate_dst (N := 4) rfl ?_); refine box_event ?hg (N := 4) ?hd (cs := #[.int .u64 0, .int .i64 0]) (t := 76) ?hr ?_; (case hd => rfl); (case hg => rfl); (case hr => first | (go_simp; done) | (go_simp; rfl)); intro gb102 hg w8 hbox hb; have n0_ := Aside0.mk (below_step (by repeat (first | (with_reducible first | exact HB.out | apply below_alloc | apply pw_below_drewN | apply below_drew1) | exact HB.out)) hb); have n1_ := Aside0.mk (hbox); have n2_ := Aside0.mk ((by rw [hg]; exact (below_size (by repeat (first | (with_reducible first | exact HB.out | apply below_alloc | apply pw_below_drewN | apply below_drew1) | exact HB.out))) : w.heap.size ≤ gb102)); have n3_ := Aside0.mk ((by rw [hg]; exact (below_size (by repeat (first | (with_reducible first | exact HB.out | apply below_alloc | apply pw_below_drewN | apply below_drew1) | exact HB.out))) : w.heap.size ≤ gb102)); clear HB; have HB := n0_; have BK102 := n1_; have GW102 := n2_; have GE102 := n3_; clear n0_ n1_ n2_ n3_; clear hb hbox hg; have hcz9_0 : w8.cell? ⟨gb102, 0, none⟩ = some (.int .u64 0) := (blk_cell BK102.out 0).trans rfl; have hcz9_1 : w8.cell? ⟨gb102, 1, none⟩ = some (.int .i64 0) := (blk_cell BK102.out 1).trans rfl; have hfz9_0 := blk_frozen BK102.out 0; have hfz9_1 := blk_frozen BK102.out 1))
              go_roundg k1
              case measure => have := HK1.out; omega
              case rel => exact ⟨(wrap64 (x7_1 + 1)), (by first | rfl | (simp; done) | (simp [*]; done)), H', ⟨by have := HK1.out; omega⟩, ⟨by repeat (first | (with_reducible first | exact HB.out | apply below_alloc | apply pw_below_drewN | apply below_drew1 | refine below_set ?_ GE102.out) | exact HB.out)⟩⟩
          · rw [if_neg c4] at H
            exact absurd H (by simp)
        · rw [if_neg c3] at H
          exact absurd H (by simp)
      · rw [if_neg c2] at H
        have c2b0 : decide (x7_1 < (l0.length : Int)) = false := decide_eq_false c2
        clear c2
        obtain rfl := Option.some.inj H
        go_wp2
        go_ret
        exact ⟨by first | rfl | (simp [errW_none, errW_some] <;> rfl) | (simp [*, errW_none, errW_some] <;> rfl), by repeat (first | (with_reducible first | exact HB.out | apply below_alloc | apply pw_below_drewN | apply below_drew1) | exact HB.out)⟩
end Go.Proofs.YtoibbedpaaeclaaGreat.PChk
end

section
-- PRINTED by print.py (a twelfth state) out of the translation. Not trusted: Lean checks it.
namespace Go.Proofs.YtoibbedpaaeclaaGreat.PChk
open Go.RowKit Go.Proofs.YtoibbedpaaeclaaGreatW.PrintWords Go.Proofs.YtoibbedpaaeclaaGreatW.PrintLast Go.Proofs.YtoibbedpaaeclaaGreatW.PrintMore
attribute [local go_sem] max2_int min2_int max_two min_two max_three min_three max_four min_four -- for this text's walks alone
set_option linter.unusedVariables false
set_option linter.unusedSimpArgs false
end Go.Proofs.YtoibbedpaaeclaaGreat.PChk
end

section
namespace Go.Proofs.YtoibbedpaaeclaaGreat
open Go Go.RowKit Go.Shelf Go.Proofs.YtoibbedpaaeclaaGreatW.PrintWords Go.Proofs.YtoibbedpaaeclaaGreatW.PrintLast Go.Proofs.YtoibbedpaaeclaaGreatW.PrintMore
set_option linter.unusedVariables false
set_option linter.unusedSimpArgs false
/-- A function value that answers b, in w and whatever has grown out of it. -/
structure Quest (w : World) (v : Value) (b : Bool) : Prop where
  out : ∃ (fn : Nat) (lb : Array Value), v = .func (.func fn) #[] lb ∧ (∀ args W, (callFunc fn args).run Tryz.prog W = .ok (.enter fn args) W) ∧ ∀ W, Below w.heap.size w W → Calls Tryz.prog fn lb W (fun e W' => e = .returned (.bool b) ∧ Below W.heap.size W W')
theorem Quest.below {w w1 : World} {v : Value} {b : Bool} (h : Quest w v b) (hb : Below w.heap.size w w1) : Quest w1 v b := by
  obtain ⟨fn, lb, h1, h2, h3⟩ := h
  exact ⟨fn, lb, h1, h2, fun W hW => h3 W (below_step hb hW)⟩
set_option maxRecDepth 100000 in
set_option maxHeartbeats 1000000 in
theorem all_calls (qs : List (Value × Bool)) (g : Nat) (t : TypeId) (w : World) (hb : w.heap[g]? = some (.cells (qs.map (·.1)).toArray t (0, 0))) (hq : ∀ q ∈ qs, Quest w q.1 q.2) (hn : qs.length ≤ 100) :
    Calls Tryz.prog 227 #[.slice (some ⟨g, 0, none⟩) qs.length qs.length] w fun e w' => e = .returned (.bool (qs.all (·.2))) ∧ Below w.heap.size w w' := by
  obtain ⟨n, hnn⟩ : ∃ n, n = qs.length := ⟨_, rfl⟩
  have HN := Lib.hid hnn
  have HB := Lib.hid hb
  have HQ := Lib.hid hq
  rw [← hnn] at hn ⊢
  clear hnn hb hq
  go_enter Tryz.func227, Tryz.ntmps227
  go_wp2
  go_loopw [7] (fun i W => ∃ k : Nat, k ≤ n ∧ i = .int .i64 k ∧ Hid (qs.all (·.2) = (qs.drop k).all (·.2)) ∧ Below w.heap.size w W) (fun i W => n - (intOf i).toNat)
  case atStart => exact ⟨0, by omega, rfl, Lib.hid (by simp), (by repeat (first | with_reducible (exact Below.refl _ _) | with_reducible (apply below_alloc) | with_reducible (apply below_drew1) | with_reducible (apply pw_below_drewN) | (with_reducible (refine q2z ?_ ?_ _ _); rotate_left; omega)))⟩
  case round =>
    obtain ⟨k, hk, rfl, hall, hB⟩ := hrel
    by_cases hlt : k < n
    · have hkl : k < qs.length := by have := HN.out; omega
      obtain ⟨q, hqe⟩ : ∃ q, q = qs[k] := ⟨_, rfl⟩
      obtain ⟨v, b⟩ := q
      have hquest := HQ.out (v, b) (by rw [hqe]; exact List.getElem_mem hkl)
      obtain ⟨fn, lb, hv, heg, hf⟩ := hquest
      simp only at hv hf
      subst hv
      have HF := Lib.hid hf
      have cel : w.cell? ⟨g, k, none⟩ = some (.func (.func fn) #[] lb) := by
        have := blk_cell HB.out k
        simp [List.getElem?_map, List.getElem?_eq_getElem hkl, ← hqe] at this
        exact this
      have cl1 := pw_cell_below hB cel
      have hdrop : Hid ((qs.drop k).all (·.2) = (b && (qs.drop (k + 1)).all (·.2))) := Lib.hid (by rw [List.drop_eq_getElem_cons hkl, List.all_cons, ← hqe])
      clear cel hf hqe
      cases b with
      | true =>
        go_wp2_with (refine (HF.out _ hB).mono ?_; rintro e w1 ⟨rfl, hb⟩)
        go_roundw
        case rel => exact ⟨k + 1, by omega, by simp, Lib.hid (by rw [hall.out, hdrop.out, Bool.true_and]), hB.trans (hb.mono hB.size)⟩
        case measure => simp [intOf]; omega
      | false =>
        go_wp2_with (refine (HF.out _ hB).mono ?_; rintro e w1 ⟨rfl, hb⟩)
        go_ret
        exact ⟨by rw [hall.out, hdrop.out, Bool.false_and]; rfl, hB.trans (hb.mono hB.size)⟩
    · obtain rfl : k = n := by omega
      go_wp2
      go_ret
      exact ⟨by rw [hall.out, List.drop_of_length_le (by have := HN.out; omega)]; rfl, hB⟩
def toS (l : Lab) : List PChk.S76 := l.map (fun p => ⟨p.1, p.2⟩)
theorem q9z (l : Lab) : (toS l).length = l.length := List.length_map _
theorem C_toS {w : World} {A : Option Addr} {n : Nat} {l : Lab} (h : kPr.C w A n l) : Kd.C PChk.k76 w A n (toS l) := by
  obtain ⟨h1, h2, h3⟩ := h
  refine ⟨by rw [q9z]; exact h1, h2, fun hn => ?_⟩
  obtain ⟨ad, e, hc⟩ := h3 hn
  refine ⟨ad, e, fun j p hp => ?_⟩
  unfold toS at hp
  rw [List.getElem?_map] at hp
  cases hj : l[j]? with
  | none => rw [hj] at hp; simp at hp
  | some q =>
    rw [hj] at hp
    simp at hp
    obtain ⟨c, hc1, hc2, hc3⟩ := hc j q hj
    subst hp
    exact ⟨c, hc1, hc2, hc3⟩
theorem rd_toS (l : Lab) (i : Nat) (h : i < l.length) : PChk.rd_T76 (toS l) (i : Int) = ⟨l[i].1, l[i].2⟩ := by
  unfold PChk.rd_T76 toS
  simp [h]
theorem w64' {x : Int} (h : 0 ≤ x ∧ x < 9223372036854775808) : wrap64 x = x := by unfold wrap64; omega
def q5t (l : Lab) : Bool := l.all (fun p => p.2 != 5)
theorem plainB_cons (p : Int × Int) (t : Lab) : q5t (p :: t) = (p.2 != 5 && q5t t) := rfl
theorem plain_loop (l : Lab) (hlen : l.length ≤ 1000000) : ∀ (d k i : Nat), i + d = l.length → d < k → PChk.check_plain.l0 k (toS l) (l.length : Int) (i : Int) = some (q5t (l.drop i)) := by
  intro d
  induction d with
  | zero =>
    intro k i hi hk
    obtain ⟨k, rfl⟩ : ∃ m, k = m + 1 := ⟨k - 1, by omega⟩
    simp only [PChk.check_plain.l0, q9z]
    rw [if_neg (by omega), List.drop_of_length_le (by omega)]
    rfl
  | succ d ih =>
    intro k i hi hk
    obtain ⟨k, rfl⟩ : ∃ m, k = m + 1 := ⟨k - 1, by omega⟩
    have hil : i < l.length := by omega
    have ih' := ih k (i + 1) (by omega) (by omega)
    have hw : wrap64 ((i : Int) + 1) = ((i + 1 : Nat) : Int) := by rw [w64' (by omega)]; omega
    simp only [PChk.check_plain.l0, q9z]
    rw [if_pos (by omega), if_pos (by omega), if_pos (by omega), rd_toS l i hil, hw, ih', List.drop_eq_getElem_cons hil]
    by_cases h1 : l[i].2 = 5
    · rw [if_pos h1, plainB_cons, h1]; rfl
    · rw [if_neg h1, plainB_cons, bne_iff_ne.2 h1, Bool.true_and]
theorem plain_calls (l : Lab) (A : Option Addr) (c : Nat) (w : World) (hC : kPr.C w A l.length l) (hc : l.length ≤ c) (hlen : l.length ≤ 1000000) :
    Calls Tryz.prog 267 #[.slice A l.length c] w fun e w' => e = .returned (.bool (q5t l)) ∧ Below w.heap.size w w' := by
  have h := PChk.check_plain.calls (l.length + 1) A c (toS l) (q5t l) w (by rw [q9z]; exact C_toS hC) (by rw [q9z]; exact hc) (by
    have := plain_loop l hlen l.length (l.length + 1) 0 (by omega) (by omega)
    rw [List.drop_zero] at this
    unfold PChk.check_plain.f
    rw [q9z]
    exact this)
  rw [q9z] at h
  refine h.mono ?_
  rintro e w' ⟨rfl, hb⟩
  exact ⟨rfl, by first | exact hb | exact hb.below⟩
theorem leq1_calls (la lb : Lab) (Aa Ab : Option Addr) (ca cb : Nat) (g h : Nat) (W : World) (hg : W.heap[g]? = some (.cells #[.slice Aa la.length ca] 26 (0, 0))) (hh : W.heap[h]? = some (.cells #[.slice Ab lb.length cb] 26 (0, 0)))
    (hCa : kPr.C W Aa la.length la) (hCb : kPr.C W Ab lb.length lb) (hca : la.length ≤ ca) (hcb : lb.length ≤ cb) (hlen : la.length + lb.length ≤ 1000000) :
    Calls Tryz.prog 268 #[.pointer (some ⟨g, 0, none⟩), .pointer (some ⟨h, 0, none⟩)] W fun e w' => e = .returned (.bool (leqB la lb)) ∧ Below W.heap.size W w' := by
  have c1 := blk_cell hg 0
  have c2 := blk_cell hh 0
  simp only [List.getElem?_toArray, List.getElem?_cons_zero] at c1 c2
  have HC := Lib.hid hCa
  have HD := Lib.hid hCb
  clear hg hh hCa hCb
  go_enter Tryz.func268, Tryz.ntmps268
  go_wp2_with (refine (leq_calls la lb Aa Ab ca cb _ HC.out HD.out hca hcb hlen).mono ?_; rintro e w1 ⟨rfl, hb⟩)
  go_ret
  exact ⟨rfl, hb⟩
theorem q6e (la lb : Lab) (Aa Ab : Option Addr) (ca cb : Nat) (w : World) (hCa : kPr.C w Aa la.length la) (hCb : kPr.C w Ab lb.length lb) (hca : la.length ≤ ca) (hcb : lb.length ≤ cb) (hlen : la.length + lb.length ≤ 1000000) :
    Calls Tryz.prog 229 #[.slice Aa la.length ca, .slice Ab lb.length cb] w fun e w' => ∃ fn lb_, e = .returned (.func (.func fn) #[] lb_) ∧ Quest w' (.func (.func fn) #[] lb_) (leqB la lb) ∧ Below w.heap.size w w' := by
  have HC := Lib.hid hCa
  have HD := Lib.hid hCb
  clear hCa hCb
  go_enter Tryz.func229, Tryz.ntmps229
  go_wp2
  go_ret
  refine ⟨_, _, rfl, ⟨268, _, rfl, enters_of Tryz.func268 (by kernel_rfl) rfl, fun W hW => ?_⟩, (by repeat (first | with_reducible (exact Below.refl _ _) | with_reducible (apply below_alloc) | with_reducible (apply below_drew1) | with_reducible (apply pw_below_drewN) | (with_reducible (refine q2z ?_ ?_ _ _); rotate_left; omega)))⟩
  exact leq1_calls la lb Aa Ab ca cb _ _ W (blk_below (blk_alloc (blk_new _ _) _) hW) (blk_below (blk_at (by simp)) hW) (Kd.C_below (Kd.C_below HC.out (by repeat (first | with_reducible (exact Below.refl _ _) | with_reducible (apply below_alloc) | with_reducible (apply below_drew1) | with_reducible (apply pw_below_drewN) | (with_reducible (refine q2z ?_ ?_ _ _); rotate_left; omega)))) hW) (Kd.C_below (Kd.C_below HD.out (by repeat (first | with_reducible (exact Below.refl _ _) | with_reducible (apply below_alloc) | with_reducible (apply below_drew1) | with_reducible (apply pw_below_drewN) | (with_reducible (refine q2z ?_ ?_ _ _); rotate_left; omega)))) hW) hca hcb hlen
theorem flat1_calls (la : Lab) (Aa : Option Addr) (ca : Nat) (g : Nat) (W : World) (hg : W.heap[g]? = some (.cells #[.slice Aa la.length ca] 26 (0, 0))) (hCa : kPr.C W Aa la.length la) (hca : la.length ≤ ca) (hlen : la.length ≤ 1000000) :
    Calls Tryz.prog 266 #[.pointer (some ⟨g, 0, none⟩)] W fun e w' => e = .returned (.bool (q5t la)) ∧ Below W.heap.size W w' := by
  have c1 := blk_cell hg 0
  simp only [List.getElem?_toArray, List.getElem?_cons_zero] at c1
  have HC := Lib.hid hCa
  clear hg hCa
  go_enter Tryz.func266, Tryz.ntmps266
  go_wp2_with (refine (plain_calls la Aa ca _ HC.out hca hlen).mono ?_; rintro e w1 ⟨rfl, hb⟩)
  go_ret
  exact ⟨rfl, hb⟩
theorem flat_calls (la : Lab) (Aa : Option Addr) (ca : Nat) (w : World) (hCa : kPr.C w Aa la.length la) (hca : la.length ≤ ca) (hlen : la.length ≤ 1000000) :
    Calls Tryz.prog 228 #[.slice Aa la.length ca] w fun e w' => ∃ fn lb_, e = .returned (.func (.func fn) #[] lb_) ∧ Quest w' (.func (.func fn) #[] lb_) (q5t la) ∧ Below w.heap.size w w' := by
  have HC := Lib.hid hCa
  clear hCa
  go_enter Tryz.func228, Tryz.ntmps228
  go_wp2
  go_ret
  refine ⟨_, _, rfl, ⟨266, _, rfl, enters_of Tryz.func266 (by kernel_rfl) rfl, fun W hW => ?_⟩, (by repeat (first | with_reducible (exact Below.refl _ _) | with_reducible (apply below_alloc) | with_reducible (apply below_drew1) | with_reducible (apply pw_below_drewN) | (with_reducible (refine q2z ?_ ?_ _ _); rotate_left; omega)))⟩
  exact flat1_calls la Aa ca _ W (blk_below (blk_new _ _) hW) (Kd.C_below (Kd.C_below HC.out (by repeat (first | with_reducible (exact Below.refl _ _) | with_reducible (apply below_alloc) | with_reducible (apply below_drew1) | with_reducible (apply pw_below_drewN) | (with_reducible (refine q2z ?_ ?_ _ _); rotate_left; omega)))) hW) hca hlen
end Go.Proofs.YtoibbedpaaeclaaGreat
end

section
namespace Go.Proofs.YtoibbedpaaeclaaGreat
open Go Go.RowKit Go.Shelf Go.Proofs.YtoibbedpaaeclaaGreatW.PrintWords Go.Proofs.YtoibbedpaaeclaaGreatW.PrintLast Go.Proofs.YtoibbedpaaeclaaGreatW.PrintMore
set_option linter.unusedVariables false
set_option linter.unusedSimpArgs false
theorem joinB_len (a b : Lab) : (joinB a b).length ≤ a.length + b.length := foldB_len _ _ _
theorem raiseB_len (a : Lab) : (q7h a).length ≤ a.length := foldB_len _ _ _
theorem lowerB_len (a : Lab) : (lowerB a).length ≤ a.length := foldB_len _ _ _
theorem raiseC (la : Lab) (Aa : Option Addr) (ca : Nat) (w : World) (hCa : kPr.C w Aa la.length la) (hca : la.length ≤ ca) (hlen : la.length ≤ 1000000) :
    Calls Tryz.prog 226 #[.slice Aa la.length ca] w fun e w' => ∃ v, e = .returned v ∧ Kd.R kPr 76 w' w.heap.size (fun _ => True) v (q7h la) ∧ Below w.heap.size w w' := raise_calls la Aa ca w hCa hca hlen
theorem lowerC (la : Lab) (Aa : Option Addr) (ca : Nat) (w : World) (hCa : kPr.C w Aa la.length la) (hca : la.length ≤ ca) (hlen : la.length ≤ 1000000) :
    Calls Tryz.prog 224 #[.slice Aa la.length ca] w fun e w' => ∃ v, e = .returned v ∧ Kd.R kPr 76 w' w.heap.size (fun _ => True) v (lowerB la) ∧ Below w.heap.size w w' := lower_calls la Aa ca w hCa hca hlen
theorem joinC (la lb : Lab) (Aa Ab : Option Addr) (ca cb : Nat) (w : World) (hCa : kPr.C w Aa la.length la) (hCb : kPr.C w Ab lb.length lb) (hca : la.length ≤ ca) (hcb : lb.length ≤ cb) (hlen : la.length + lb.length ≤ 1000000) :
    Calls Tryz.prog 225 #[.slice Aa la.length ca, .slice Ab lb.length cb] w fun e w' => ∃ v, e = .returned v ∧ Kd.R kPr 76 w' w.heap.size (fun _ => True) v (joinB la lb) ∧ Below w.heap.size w w' := join_calls la lb Aa Ab ca cb w hCa hCb hca hcb hlen
set_option maxRecDepth 100000 in
set_option maxHeartbeats 1000000 in
theorem become_calls (lT : Lab) (AT : Option Addr) (cT : Nat) (lC : Lab) (AC : Option Addr) (cC : Nat) (lN : Lab) (AN : Option Addr) (cN : Nat) (w : World) (hT : kPr.C w AT lT.length lT) (hcT : lT.length ≤ cT) (hlT : lT.length ≤ 1000) (hC : kPr.C w AC lC.length lC) (hcC : lC.length ≤ cC) (hlC : lC.length ≤ 1000) (hN : kPr.C w AN lN.length lN) (hcN : lN.length ≤ cN) (hlN : lN.length ≤ 1000) :
    Calls Tryz.prog 246 #[.slice AT lT.length cT, .slice AC lC.length cC, .slice AN lN.length cN] w fun e w' => e = .returned (.bool (q5t lN && (leqB lT lN && leqB lN lC))) ∧ Below w.heap.size w w' := by
  have hT := Lib.hid hT
  have hC := Lib.hid hC
  have hN := Lib.hid hN
  have HB := Lib.hid (Below.refl w.heap.size w)
  go_enter Tryz.func246, Tryz.ntmps246
  go_wp2_with fail
  with_reducible refine Calls.mono (flat_calls lN AN cN _ hN.out hcN (by omega)) ?_
  rintro e w1 ⟨f1, b1, rfl, q1, hb⟩
  have hT := Lib.hid (Kd.C_below hT.out hb)
  have hC := Lib.hid (Kd.C_below hC.out hb)
  have hN := Lib.hid (Kd.C_below hN.out hb)
  have HB := Lib.hid (below_step HB.out hb)
  clear hb
  go_wp2_with fail
  with_reducible refine Calls.mono (q6e lT lN AT AN cT cN _ hT.out hN.out hcT hcN (by omega)) ?_
  rintro e w1 ⟨f2, b2, rfl, q2, hb⟩
  have hT := Lib.hid (Kd.C_below hT.out hb)
  have hC := Lib.hid (Kd.C_below hC.out hb)
  have hN := Lib.hid (Kd.C_below hN.out hb)
  have q1 := q1.below hb
  have HB := Lib.hid (below_step HB.out hb)
  clear hb
  go_wp2_with fail
  with_reducible refine Calls.mono (q6e lN lC AN AC cN cC _ hN.out hC.out hcN hcC (by omega)) ?_
  rintro e w1 ⟨f3, b3, rfl, q3, hb⟩
  have hT := Lib.hid (Kd.C_below hT.out hb)
  have hC := Lib.hid (Kd.C_below hC.out hb)
  have hN := Lib.hid (Kd.C_below hN.out hb)
  have q1 := q1.below hb
  have q2 := q2.below hb
  have HB := Lib.hid (below_step HB.out hb)
  clear hb
  go_wp2_with fail
  with_reducible refine Calls.mono (all_calls [((Value.func (.func f1) #[] b1), q5t lN), ((Value.func (.func f2) #[] b2), leqB lT lN), ((Value.func (.func f3) #[] b3), leqB lN lC)] _ 257 _ ?hb ?hq (by simp)) ?_
  case hb => exact blk_at (by simp)
  case hq =>
    intro q hq
    simp only [List.mem_cons, List.not_mem_nil, or_false] at hq
    rcases hq with rfl | rfl | rfl
    · exact q1.below (by repeat (first | with_reducible (exact Below.refl _ _) | with_reducible (apply below_alloc) | with_reducible (apply below_drew1) | with_reducible (apply pw_below_drewN) | (with_reducible (refine q2z ?_ ?_ _ _); rotate_left; omega)))
    · exact q2.below (by repeat (first | with_reducible (exact Below.refl _ _) | with_reducible (apply below_alloc) | with_reducible (apply below_drew1) | with_reducible (apply pw_below_drewN) | (with_reducible (refine q2z ?_ ?_ _ _); rotate_left; omega)))
    · exact q3.below (by repeat (first | with_reducible (exact Below.refl _ _) | with_reducible (apply below_alloc) | with_reducible (apply below_drew1) | with_reducible (apply pw_below_drewN) | (with_reducible (refine q2z ?_ ?_ _ _); rotate_left; omega)))
  rintro e w1 ⟨rfl, hb⟩
  go_wp2_with fail
  go_ret
  exact ⟨by simp, below_step (show Below w.heap.size w _ from (by repeat (first | with_reducible (exact HB.out) | with_reducible (apply below_alloc) | with_reducible (apply below_drew1) | with_reducible (apply pw_below_drewN) | (with_reducible (refine q2z ?_ ?_ _ _); rotate_left; omega)))) hb⟩
set_option maxRecDepth 100000 in
set_option maxHeartbeats 1000000 in
theorem enter_calls (lT : Lab) (AT : Option Addr) (cT : Nat) (lC : Lab) (AC : Option Addr) (cC : Nat) (lG : Lab) (AG : Option Addr) (cG : Nat) (lK : Lab) (AK : Option Addr) (cK : Nat) (lN : Lab) (AN : Option Addr) (cN : Nat) (lM : Lab) (AM : Option Addr) (cM : Nat) (w : World) (hT : kPr.C w AT lT.length lT) (hcT : lT.length ≤ cT) (hlT : lT.length ≤ 1000) (hC : kPr.C w AC lC.length lC) (hcC : lC.length ≤ cC) (hlC : lC.length ≤ 1000) (hG : kPr.C w AG lG.length lG) (hcG : lG.length ≤ cG) (hlG : lG.length ≤ 1000) (hK : kPr.C w AK lK.length lK) (hcK : lK.length ≤ cK) (hlK : lK.length ≤ 1000) (hN : kPr.C w AN lN.length lN) (hcN : lN.length ≤ cN) (hlN : lN.length ≤ 1000) (hM : kPr.C w AM lM.length lM) (hcM : lM.length ≤ cM) (hlM : lM.length ≤ 1000) :
    Calls Tryz.prog 176 #[.slice AT lT.length cT, .slice AC lC.length cC, .slice AG lG.length cG, .slice AK lK.length cK, .slice AN lN.length cN, .slice AM lM.length cM] w fun e w' => e = .returned (.bool (q5t lN && (q5t lM && (leqB lT lK && (leqB (lowerB (joinB (q7h lT) (q7h lG))) lN && (leqB lN lM && leqB lM (joinB lC lK))))))) ∧ Below w.heap.size w w' := by
  have hT := Lib.hid hT
  have hC := Lib.hid hC
  have hG := Lib.hid hG
  have hK := Lib.hid hK
  have hN := Lib.hid hN
  have hM := Lib.hid hM
  have HB := Lib.hid (Below.refl w.heap.size w)
  go_enter Tryz.func176, Tryz.ntmps176
  go_wp2_with fail
  with_reducible refine Calls.mono (raiseC lT AT cT _ hT.out hcT (by omega)) ?_
  rintro e w1 ⟨v_, rfl, hr, hb⟩
  obtain ⟨AR, cR, rfl, hcR, hmR⟩ := Kd.R_reads hr
  obtain ⟨lR, hlRe⟩ : ∃ l_, l_ = q7h lT := ⟨_, rfl⟩
  have hlR : lR.length ≤ 1000 := by rw [hlRe]; exact Nat.le_trans (raiseB_len _) hlT
  rw [← hlRe] at hcR hmR ⊢
  have hR := Lib.hid hmR
  have eR := Lib.hid hlRe
  clear hmR hlRe hr
  have hT := Lib.hid (Kd.C_below hT.out hb)
  have hC := Lib.hid (Kd.C_below hC.out hb)
  have hG := Lib.hid (Kd.C_below hG.out hb)
  have hK := Lib.hid (Kd.C_below hK.out hb)
  have hN := Lib.hid (Kd.C_below hN.out hb)
  have hM := Lib.hid (Kd.C_below hM.out hb)
  have HB := Lib.hid (below_step HB.out hb)
  clear hb
  go_wp2_with fail
  with_reducible refine Calls.mono (raiseC lG AG cG _ hG.out hcG (by omega)) ?_
  rintro e w1 ⟨v_, rfl, hr, hb⟩
  obtain ⟨AS, cS, rfl, hcS, hmS⟩ := Kd.R_reads hr
  obtain ⟨lS, hlSe⟩ : ∃ l_, l_ = q7h lG := ⟨_, rfl⟩
  have hlS : lS.length ≤ 1000 := by rw [hlSe]; exact Nat.le_trans (raiseB_len _) hlG
  rw [← hlSe] at hcS hmS ⊢
  have hS := Lib.hid hmS
  have eS := Lib.hid hlSe
  clear hmS hlSe hr
  have hT := Lib.hid (Kd.C_below hT.out hb)
  have hC := Lib.hid (Kd.C_below hC.out hb)
  have hG := Lib.hid (Kd.C_below hG.out hb)
  have hK := Lib.hid (Kd.C_below hK.out hb)
  have hN := Lib.hid (Kd.C_below hN.out hb)
  have hM := Lib.hid (Kd.C_below hM.out hb)
  have hR := Lib.hid (Kd.C_below hR.out hb)
  have HB := Lib.hid (below_step HB.out hb)
  clear hb
  go_wp2_with fail
  with_reducible refine Calls.mono (joinC lR lS AR AS cR cS _ hR.out hS.out hcR hcS (by omega)) ?_
  rintro e w1 ⟨v_, rfl, hr, hb⟩
  obtain ⟨AJ, cJ, rfl, hcJ, hmJ⟩ := Kd.R_reads hr
  obtain ⟨lJ, hlJe⟩ : ∃ l_, l_ = joinB lR lS := ⟨_, rfl⟩
  have hlJ : lJ.length ≤ 2000 := by rw [hlJe]; exact Nat.le_trans (joinB_len _ _) (by omega)
  rw [← hlJe] at hcJ hmJ ⊢
  have hJ := Lib.hid hmJ
  have eJ := Lib.hid hlJe
  clear hmJ hlJe hr
  have hT := Lib.hid (Kd.C_below hT.out hb)
  have hC := Lib.hid (Kd.C_below hC.out hb)
  have hG := Lib.hid (Kd.C_below hG.out hb)
  have hK := Lib.hid (Kd.C_below hK.out hb)
  have hN := Lib.hid (Kd.C_below hN.out hb)
  have hM := Lib.hid (Kd.C_below hM.out hb)
  have hR := Lib.hid (Kd.C_below hR.out hb)
  have hS := Lib.hid (Kd.C_below hS.out hb)
  have HB := Lib.hid (below_step HB.out hb)
  clear hb
  go_wp2_with fail
  with_reducible refine Calls.mono (lowerC lJ AJ cJ _ hJ.out hcJ (by omega)) ?_
  rintro e w1 ⟨v_, rfl, hr, hb⟩
  obtain ⟨AL, cL, rfl, hcL, hmL⟩ := Kd.R_reads hr
  obtain ⟨lL, hlLe⟩ : ∃ l_, l_ = lowerB lJ := ⟨_, rfl⟩
  have hlL : lL.length ≤ 2000 := by rw [hlLe]; exact Nat.le_trans (lowerB_len _) hlJ
  rw [← hlLe] at hcL hmL ⊢
  have hL := Lib.hid hmL
  have eL := Lib.hid hlLe
  clear hmL hlLe hr
  have hT := Lib.hid (Kd.C_below hT.out hb)
  have hC := Lib.hid (Kd.C_below hC.out hb)
  have hG := Lib.hid (Kd.C_below hG.out hb)
  have hK := Lib.hid (Kd.C_below hK.out hb)
  have hN := Lib.hid (Kd.C_below hN.out hb)
  have hM := Lib.hid (Kd.C_below hM.out hb)
  have hR := Lib.hid (Kd.C_below hR.out hb)
  have hS := Lib.hid (Kd.C_below hS.out hb)
  have hJ := Lib.hid (Kd.C_below hJ.out hb)
  have HB := Lib.hid (below_step HB.out hb)
  clear hb
  go_wp2_with fail
  with_reducible refine Calls.mono (flat_calls lN AN cN _ hN.out hcN (by omega)) ?_
  rintro e w1 ⟨f1, b1, rfl, q1, hb⟩
  have hT := Lib.hid (Kd.C_below hT.out hb)
  have hC := Lib.hid (Kd.C_below hC.out hb)
  have hG := Lib.hid (Kd.C_below hG.out hb)
  have hK := Lib.hid (Kd.C_below hK.out hb)
  have hN := Lib.hid (Kd.C_below hN.out hb)
  have hM := Lib.hid (Kd.C_below hM.out hb)
  have hR := Lib.hid (Kd.C_below hR.out hb)
  have hS := Lib.hid (Kd.C_below hS.out hb)
  have hJ := Lib.hid (Kd.C_below hJ.out hb)
  have hL := Lib.hid (Kd.C_below hL.out hb)
  have HB := Lib.hid (below_step HB.out hb)
  clear hb
  go_wp2_with fail
  with_reducible refine Calls.mono (flat_calls lM AM cM _ hM.out hcM (by omega)) ?_
  rintro e w1 ⟨f2, b2, rfl, q2, hb⟩
  have hT := Lib.hid (Kd.C_below hT.out hb)
  have hC := Lib.hid (Kd.C_below hC.out hb)
  have hG := Lib.hid (Kd.C_below hG.out hb)
  have hK := Lib.hid (Kd.C_below hK.out hb)
  have hN := Lib.hid (Kd.C_below hN.out hb)
  have hM := Lib.hid (Kd.C_below hM.out hb)
  have hR := Lib.hid (Kd.C_below hR.out hb)
  have hS := Lib.hid (Kd.C_below hS.out hb)
  have hJ := Lib.hid (Kd.C_below hJ.out hb)
  have hL := Lib.hid (Kd.C_below hL.out hb)
  have q1 := q1.below hb
  have HB := Lib.hid (below_step HB.out hb)
  clear hb
  go_wp2_with fail
  with_reducible refine Calls.mono (q6e lT lK AT AK cT cK _ hT.out hK.out hcT hcK (by omega)) ?_
  rintro e w1 ⟨f3, b3, rfl, q3, hb⟩
  have hT := Lib.hid (Kd.C_below hT.out hb)
  have hC := Lib.hid (Kd.C_below hC.out hb)
  have hG := Lib.hid (Kd.C_below hG.out hb)
  have hK := Lib.hid (Kd.C_below hK.out hb)
  have hN := Lib.hid (Kd.C_below hN.out hb)
  have hM := Lib.hid (Kd.C_below hM.out hb)
  have hR := Lib.hid (Kd.C_below hR.out hb)
  have hS := Lib.hid (Kd.C_below hS.out hb)
  have hJ := Lib.hid (Kd.C_below hJ.out hb)
  have hL := Lib.hid (Kd.C_below hL.out hb)
  have q1 := q1.below hb
  have q2 := q2.below hb
  have HB := Lib.hid (below_step HB.out hb)
  clear hb
  go_wp2_with fail
  with_reducible refine Calls.mono (q6e lL lN AL AN cL cN _ hL.out hN.out hcL hcN (by omega)) ?_
  rintro e w1 ⟨f4, b4, rfl, q4, hb⟩
  have hT := Lib.hid (Kd.C_below hT.out hb)
  have hC := Lib.hid (Kd.C_below hC.out hb)
  have hG := Lib.hid (Kd.C_below hG.out hb)
  have hK := Lib.hid (Kd.C_below hK.out hb)
  have hN := Lib.hid (Kd.C_below hN.out hb)
  have hM := Lib.hid (Kd.C_below hM.out hb)
  have hR := Lib.hid (Kd.C_below hR.out hb)
  have hS := Lib.hid (Kd.C_below hS.out hb)
  have hJ := Lib.hid (Kd.C_below hJ.out hb)
  have hL := Lib.hid (Kd.C_below hL.out hb)
  have q1 := q1.below hb
  have q2 := q2.below hb
  have q3 := q3.below hb
  have HB := Lib.hid (below_step HB.out hb)
  clear hb
  go_wp2_with fail
  with_reducible refine Calls.mono (q6e lN lM AN AM cN cM _ hN.out hM.out hcN hcM (by omega)) ?_
  rintro e w1 ⟨f5, b5, rfl, q5, hb⟩
  have hT := Lib.hid (Kd.C_below hT.out hb)
  have hC := Lib.hid (Kd.C_below hC.out hb)
  have hG := Lib.hid (Kd.C_below hG.out hb)
  have hK := Lib.hid (Kd.C_below hK.out hb)
  have hN := Lib.hid (Kd.C_below hN.out hb)
  have hM := Lib.hid (Kd.C_below hM.out hb)
  have hR := Lib.hid (Kd.C_below hR.out hb)
  have hS := Lib.hid (Kd.C_below hS.out hb)
  have hJ := Lib.hid (Kd.C_below hJ.out hb)
  have hL := Lib.hid (Kd.C_below hL.out hb)
  have q1 := q1.below hb
  have q2 := q2.below hb
  have q3 := q3.below hb
  have q4 := q4.below hb
  have HB := Lib.hid (below_step HB.out hb)
  clear hb
  go_wp2_with fail
  with_reducible refine Calls.mono (joinC lC lK AC AK cC cK _ hC.out hK.out hcC hcK (by omega)) ?_
  rintro e w1 ⟨v_, rfl, hr, hb⟩
  obtain ⟨AI, cI, rfl, hcI, hmI⟩ := Kd.R_reads hr
  obtain ⟨lI, hlIe⟩ : ∃ l_, l_ = joinB lC lK := ⟨_, rfl⟩
  have hlI : lI.length ≤ 2000 := by rw [hlIe]; exact Nat.le_trans (joinB_len _ _) (by omega)
  rw [← hlIe] at hcI hmI ⊢
  have hI := Lib.hid hmI
  have eI := Lib.hid hlIe
  clear hmI hlIe hr
  have hT := Lib.hid (Kd.C_below hT.out hb)
  have hC := Lib.hid (Kd.C_below hC.out hb)
  have hG := Lib.hid (Kd.C_below hG.out hb)
  have hK := Lib.hid (Kd.C_below hK.out hb)
  have hN := Lib.hid (Kd.C_below hN.out hb)
  have hM := Lib.hid (Kd.C_below hM.out hb)
  have hR := Lib.hid (Kd.C_below hR.out hb)
  have hS := Lib.hid (Kd.C_below hS.out hb)
  have hJ := Lib.hid (Kd.C_below hJ.out hb)
  have hL := Lib.hid (Kd.C_below hL.out hb)
  have q1 := q1.below hb
  have q2 := q2.below hb
  have q3 := q3.below hb
  have q4 := q4.below hb
  have q5 := q5.below hb
  have HB := Lib.hid (below_step HB.out hb)
  clear hb
  go_wp2_with fail
  with_reducible refine Calls.mono (q6e lM lI AM AI cM cI _ hM.out hI.out hcM hcI (by omega)) ?_
  rintro e w1 ⟨f6, b6, rfl, q6, hb⟩
  have hT := Lib.hid (Kd.C_below hT.out hb)
  have hC := Lib.hid (Kd.C_below hC.out hb)
  have hG := Lib.hid (Kd.C_below hG.out hb)
  have hK := Lib.hid (Kd.C_below hK.out hb)
  have hN := Lib.hid (Kd.C_below hN.out hb)
  have hM := Lib.hid (Kd.C_below hM.out hb)
  have hR := Lib.hid (Kd.C_below hR.out hb)
  have hS := Lib.hid (Kd.C_below hS.out hb)
  have hJ := Lib.hid (Kd.C_below hJ.out hb)
  have hL := Lib.hid (Kd.C_below hL.out hb)
  have hI := Lib.hid (Kd.C_below hI.out hb)
  have q1 := q1.below hb
  have q2 := q2.below hb
  have q3 := q3.below hb
  have q4 := q4.below hb
  have q5 := q5.below hb
  have HB := Lib.hid (below_step HB.out hb)
  clear hb
  go_wp2_with fail
  with_reducible refine Calls.mono (all_calls [((Value.func (.func f1) #[] b1), q5t lN), ((Value.func (.func f2) #[] b2), q5t lM), ((Value.func (.func f3) #[] b3), leqB lT lK), ((Value.func (.func f4) #[] b4), leqB lL lN), ((Value.func (.func f5) #[] b5), leqB lN lM), ((Value.func (.func f6) #[] b6), leqB lM lI)] _ 257 _ ?hb ?hq (by simp)) ?_
  case hb => exact blk_at (by simp)
  case hq =>
    intro q hq
    simp only [List.mem_cons, List.not_mem_nil, or_false] at hq
    rcases hq with rfl | rfl | rfl | rfl | rfl | rfl
    · exact q1.below (by repeat (first | with_reducible (exact Below.refl _ _) | with_reducible (apply below_alloc) | with_reducible (apply below_drew1) | with_reducible (apply pw_below_drewN) | (with_reducible (refine q2z ?_ ?_ _ _); rotate_left; omega)))
    · exact q2.below (by repeat (first | with_reducible (exact Below.refl _ _) | with_reducible (apply below_alloc) | with_reducible (apply below_drew1) | with_reducible (apply pw_below_drewN) | (with_reducible (refine q2z ?_ ?_ _ _); rotate_left; omega)))
    · exact q3.below (by repeat (first | with_reducible (exact Below.refl _ _) | with_reducible (apply below_alloc) | with_reducible (apply below_drew1) | with_reducible (apply pw_below_drewN) | (with_reducible (refine q2z ?_ ?_ _ _); rotate_left; omega)))
    · exact q4.below (by repeat (first | with_reducible (exact Below.refl _ _) | with_reducible (apply below_alloc) | with_reducible (apply below_drew1) | with_reducible (apply pw_below_drewN) | (with_reducible (refine q2z ?_ ?_ _ _); rotate_left; omega)))
    · exact q5.below (by repeat (first | with_reducible (exact Below.refl _ _) | with_reducible (apply below_alloc) | with_reducible (apply below_drew1) | with_reducible (apply pw_below_drewN) | (with_reducible (refine q2z ?_ ?_ _ _); rotate_left; omega)))
    · exact q6.below (by repeat (first | with_reducible (exact Below.refl _ _) | with_reducible (apply below_alloc) | with_reducible (apply below_drew1) | with_reducible (apply pw_below_drewN) | (with_reducible (refine q2z ?_ ?_ _ _); rotate_left; omega)))
  rintro e w1 ⟨rfl, hb⟩
  go_wp2_with fail
  go_ret
  exact ⟨by rw [← eR.out]; rw [← eS.out]; rw [← eJ.out]; rw [← eL.out]; rw [← eI.out]; simp, below_step (show Below w.heap.size w _ from (by repeat (first | with_reducible (exact HB.out) | with_reducible (apply below_alloc) | with_reducible (apply below_drew1) | with_reducible (apply pw_below_drewN) | (with_reducible (refine q2z ?_ ?_ _ _); rotate_left; omega)))) hb⟩
end Go.Proofs.YtoibbedpaaeclaaGreat
end

section
namespace Go.Proofs.YtoibbedpaaeclaaGreat
open Go Go.RowKit Go.Proofs.YtoibbedpaaeclaaGreatW.PrintWords Go.Proofs.YtoibbedpaaeclaaGreatW.PrintLast Go.Proofs.YtoibbedpaaeclaaGreatW.PrintMore
set_option linter.unusedVariables false
set_option linter.unusedSimpArgs false
theorem q9a {w : World} {M σ L} {vs : List Value} {p : PV} {ps : List PV} (h : VL w M σ L vs (p :: ps)) : ∃ v us, vs = v :: us ∧ VR w M σ L v p ∧ VL w M σ L us ps := by
  obtain ⟨h1, h2⟩ := h
  match vs, h1 with
  | v :: us, h1 => exact ⟨v, us, rfl, h2 0 v p rfl rfl, by simpa using h1, fun i v p hv hp => h2 (i + 1) v p (by simpa using hv) (by simpa using hp)⟩
theorem vl_nil' {w : World} {M σ L} {vs : List Value} (h : VL w M σ L vs []) : vs = [] := List.eq_nil_of_length_eq_zero h.1
theorem of_of (l : Lab) : q2g (l.map ofPair) = l := by simp [q2g, ofPair, List.map_map, Function.comp_def]
theorem label_get (l : List Pr) (c : Int) (hs : Sorted (q2g l)) (hl : l.length ≤ 1000000) : Pure Tryz.prog 201 [.sl (l.map Pr.enc), .int .u64 c] (.int .i64 (getL (q2g l) c)) := by
  intro w M σ L vs hM hvl
  obtain ⟨v, u, rfl, h1, h2⟩ := vl2 hvl
  obtain ⟨A, cap, rfl, hC, hc⟩ := q7e h1 (by omega)
  cases h2
  refine (get_calls (q2g l) A cap c w hC hc hs (by rw [q4e]; exact hl)).mono ?_
  rintro e w' ⟨rfl, hb⟩
  exact ⟨_, rfl, .int _ _, hb⟩
def enterB (t c g k n m : List Pr) : Bool := q5t (q2g n) && (q5t (q2g m) && (leqB (q2g t) (q2g k) && (leqB (lowerB (joinB (q7h (q2g t)) (q7h (q2g g)))) (q2g n) && (leqB (q2g n) (q2g m) && leqB (q2g m) (joinB (q2g c) (q2g k))))))
theorem chk_enter (t c g k n m : List Pr) (ht : t.length ≤ 1000) (hc : c.length ≤ 1000) (hg : g.length ≤ 1000) (hk : k.length ≤ 1000) (hn : n.length ≤ 1000) (hm : m.length ≤ 1000) : Pure Tryz.prog 176 [.sl (t.map Pr.enc), .sl (c.map Pr.enc), .sl (g.map Pr.enc), .sl (k.map Pr.enc), .sl (n.map Pr.enc), .sl (m.map Pr.enc)] (.bool (enterB t c g k n m)) := by
  intro w M σ L vs hM hvl
  obtain ⟨vt, vs, rfl, rt, hvl⟩ := q9a hvl
  obtain ⟨vc, vs, rfl, rc, hvl⟩ := q9a hvl
  obtain ⟨vg, vs, rfl, rg, hvl⟩ := q9a hvl
  obtain ⟨vk, vs, rfl, rk, hvl⟩ := q9a hvl
  obtain ⟨vn, vs, rfl, rn, hvl⟩ := q9a hvl
  obtain ⟨vm, vs, rfl, rm, hvl⟩ := q9a hvl
  cases vl_nil' hvl
  obtain ⟨At, ct, rfl, Ct, dt⟩ := q7e rt (by omega)
  obtain ⟨Ac, cc, rfl, Cc, dc⟩ := q7e rc (by omega)
  obtain ⟨Ag, cg, rfl, Cg, dg⟩ := q7e rg (by omega)
  obtain ⟨Ak, ck, rfl, Ck, dk⟩ := q7e rk (by omega)
  obtain ⟨An, cn, rfl, Cn, dn⟩ := q7e rn (by omega)
  obtain ⟨Am, cm, rfl, Cm, dm⟩ := q7e rm (by omega)
  refine (enter_calls (q2g t) At ct (q2g c) Ac cc (q2g g) Ag cg (q2g k) Ak ck (q2g n) An cn (q2g m) Am cm w Ct dt (by rw [q4e]; exact ht) Cc dc (by rw [q4e]; exact hc) Cg dg (by rw [q4e]; exact hg) Ck dk (by rw [q4e]; exact hk) Cn dn (by rw [q4e]; exact hn) Cm dm (by rw [q4e]; exact hm)).mono ?_
  rintro e w' ⟨rfl, hb⟩
  exact ⟨_, rfl, .bool _, hb⟩
end Go.Proofs.YtoibbedpaaeclaaGreat
end

section
namespace Go.Proofs.YtoibbedpaaeclaaGreat
open Go Go.RowKit
set_option linter.unusedVariables false
set_option linter.unusedSimpArgs false
set_option maxHeartbeats 16000000
set_option maxRecDepth 100000
def joinAN (a b : List Pr) (n : Nat) : List Pr := (a.take n).foldl (fun out p => q8e out p.cat (q4g p.lev (q1j b p.cat))) a
def joinBN (a b : List Pr) (n : Nat) : List Pr := (b.take n).foldl (fun out p => q8e out p.cat (q4g (q1j a p.cat) p.lev)) (joinAN a b a.length)
def joinR (a b : List Pr) : List Pr := joinBN a b b.length
def q8t (n : Int) : Int := if (q6r n == 5) = true then 0 else q6r n
def lowPr (p : Pr) : Pr := ⟨p.cat, q8t p.lev⟩
def plainR (l : List Pr) : Bool := allB l.length (q7c l)
def enterR (t c g k n m : List Pr) : Bool := plainR n && (plainR m && (leqR t k && (leqR ((joinR (t.map upPr) (g.map upPr)).map lowPr) n && (leqR n m && leqR m (joinR c k)))))
def plAt (d o : List Pr) (k : Nat) : Bool := match d[k]? with
  | some p => !decide (p.lev > if 2 > q1j (q4c o) p.cat then 2 else q1j (q4c o) p.cat)
  | none => true
def placeB (d o : List Pr) : Bool := allB d.length (plAt d o)
attribute [local irreducible] q0i dr q0d Ex.then Ex.inBlock retQ q1n q2d q2c Pure CSat evOp q1i rdOf upd hset strip sp0 cut envL q1g q3i Keep BdL evBs q2n q2s
end Go.Proofs.YtoibbedpaaeclaaGreat
end

section
namespace Go.Proofs.YtoibbedpaaeclaaGreat
open Go Go.RowKit
set_option linter.unusedVariables false
set_option linter.unusedSimpArgs false
def insP (c lev : Int) : List Pr → List Pr
  | [] => [⟨c, lev⟩]
  | x :: l => if decide (x.cat > c) = true then ⟨c, lev⟩ :: x :: l.filter (fun y => y.cat != c) else if (x.cat == c) = true then insP c lev l else x :: insP c lev l
theorem wst_done (c lev : Int) : ∀ (l acc : List Pr), l.foldl (wst c lev) (acc, true) = (acc ++ l.filter (fun y => y.cat != c), true)
  | [], acc => by simp
  | x :: l, acc => by
    rw [List.foldl_cons]
    have h : wst c lev (acc, true) x = (if (x.cat != c) = true then acc ++ [x] else acc, true) := by unfold wst; split <;> simp
    rw [h, wst_done c lev l, List.filter_cons]
    split <;> simp
theorem ins_gt {c lev : Int} {x : Pr} {l : List Pr} (h : x.cat > c) : insP c lev (x :: l) = ⟨c, lev⟩ :: x :: l.filter (fun y => y.cat != c) := by
  unfold insP; rw [if_pos (by simpa using h)]
theorem ins_is {c lev : Int} {x : Pr} {l : List Pr} (h : x.cat = c) : insP c lev (x :: l) = insP c lev l := by
  rw [insP, if_neg (by simp; omega), if_pos (by simpa using h)]
theorem ins_lt {c lev : Int} {x : Pr} {l : List Pr} (h1 : ¬ x.cat > c) (h2 : x.cat ≠ c) : insP c lev (x :: l) = x :: insP c lev l := by
  rw [insP, if_neg (by simpa using h1), if_neg (by simpa using h2)]
theorem wst_open (c lev : Int) : ∀ (l acc : List Pr), (if (l.foldl (wst c lev) (acc, false)).2 = true then (l.foldl (wst c lev) (acc, false)).1 else (l.foldl (wst c lev) (acc, false)).1 ++ [⟨c, lev⟩]) = acc ++ insP c lev l
  | [], acc => by simp [insP]
  | x :: l, acc => by
    rw [List.foldl_cons]
    by_cases h1 : x.cat > c
    · have hn : (x.cat != c) = true := by simp; omega
      have e : wst c lev (acc, false) x = (acc ++ [⟨c, lev⟩] ++ [x], true) := by unfold wst; rw [if_pos hn]; simp [h1]
      rw [e, wst_done, ins_gt h1, if_pos rfl]
      simp
    · by_cases h2 : x.cat = c
      · have e : wst c lev (acc, false) x = (acc, false) := by unfold wst; rw [if_neg (by simp [h2])]; simp [h1]
        rw [e, wst_open c lev l, ins_is h2]
      · have e : wst c lev (acc, false) x = (acc ++ [x], false) := by unfold wst; rw [if_pos (by simpa using h2)]; simp [h1]
        rw [e, wst_open c lev l, ins_lt h1 h2]
        simp
theorem withR_eq (l : List Pr) (c lev : Int) : q8e l c lev = if (lev == 2) = true then l.filter (fun y => y.cat != c) else insP c lev l := by
  unfold q8e q8h
  rw [List.take_length]
  cases h : (lev == 2) with
  | true => rw [wst_done]; simp
  | false => rw [wst_open]; simp
theorem q5a (x : Pr) (l : List Pr) (c : Int) : q1j (x :: l) c = if x.cat = c then x.lev else q1j l c := by
  unfold q1j
  rw [List.find?_cons]
  by_cases h : x.cat = c
  · have : (x.cat == c) = true := by simpa using h
    rw [this, if_pos h]
  · have : (x.cat == c) = false := by simpa using h
    rw [this, if_neg h]
theorem get_filt (c : Int) : ∀ (l : List Pr) (d : Int), q1j (l.filter (fun y => y.cat != c)) d = if d = c then 2 else q1j l d
  | [], d => by simp [q1j]
  | x :: l, d => by
    rw [List.filter_cons]
    by_cases h : x.cat = c
    · rw [if_neg (by simp [h]), get_filt c l d, q5a]
      by_cases hd : d = c
      · simp [hd]
      · rw [if_neg hd, if_neg hd, if_neg (by omega)]
    · rw [if_pos (by simpa using h), q5a, get_filt c l d, q5a]
      by_cases hd : d = c
      · rw [if_pos hd, if_pos hd, if_neg (by omega)]
      · rw [if_neg hd, if_neg hd]
theorem get_ins (c lev : Int) : ∀ (l : List Pr) (d : Int), q1j (insP c lev l) d = if d = c then lev else q1j l d
  | [], d => by
    unfold insP; rw [q5a]
    by_cases hd : d = c
    · rw [if_pos hd, if_pos hd.symm]
    · rw [if_neg hd, if_neg (fun h => hd h.symm)]
  | x :: l, d => by
    by_cases h1 : x.cat > c
    · rw [ins_gt h1, q5a, q5a, q5a, get_filt]
      simp only
      by_cases hd : d = c
      · rw [if_pos hd.symm, if_pos hd]
      · rw [if_neg (fun h => hd h.symm), if_neg hd, if_neg hd]
    · by_cases h2 : x.cat = c
      · rw [ins_is h2, get_ins c lev l d, q5a]
        by_cases hd : d = c
        · rw [if_pos hd, if_pos hd]
        · rw [if_neg hd, if_neg hd, if_neg (by omega)]
      · rw [ins_lt h1 h2, q5a, get_ins c lev l d, q5a]
        by_cases hd : d = c
        · rw [if_pos hd, if_pos hd, if_neg (by omega)]
        · rw [if_neg hd, if_neg hd]
theorem get_with (l : List Pr) (c lev d : Int) : q1j (q8e l c lev) d = if d = c then lev else q1j l d := by
  rw [withR_eq]
  by_cases h : lev = 2
  · rw [if_pos (by simpa using h), get_filt, h]
  · rw [if_neg (by simpa using h), get_ins]
def Ris (l : List Pr) : Prop := l.Pairwise (fun p q => p.cat < q.cat)
theorem ris_lab {l : List Pr} : SortedP (q2g l) ↔ Ris l := by unfold SortedP q2g Ris; rw [List.pairwise_map]
theorem ins_mem {c lev : Int} : ∀ {l : List Pr} {y : Pr}, y ∈ insP c lev l → y = ⟨c, lev⟩ ∨ y ∈ l
  | [], y, h => by unfold insP at h; simp at h; exact .inl h
  | x :: l, y, h => by
    unfold insP at h
    split at h
    · simp only [List.mem_cons, List.mem_filter] at h ⊢
      rcases h with h | h | h
      · exact .inl h
      · exact .inr (.inl h)
      · exact .inr (.inr h.1)
    · split at h
      · rcases ins_mem h with h | h
        · exact .inl h
        · exact .inr (List.mem_cons_of_mem _ h)
      · rcases List.mem_cons.1 h with h | h
        · exact .inr (by rw [h]; exact List.mem_cons_self)
        · rcases ins_mem h with h | h
          · exact .inl h
          · exact .inr (List.mem_cons_of_mem _ h)
theorem insP_ris {c lev : Int} : ∀ {l : List Pr}, Ris l → Ris (insP c lev l)
  | [], _ => by unfold insP Ris; exact List.pairwise_singleton _ _
  | x :: l, h => by
    have h' := List.pairwise_cons.1 h
    unfold insP
    split
    · rename_i h1
      have h1 : x.cat > c := by simpa using h1
      refine List.pairwise_cons.2 ⟨fun y hy => ?_, List.pairwise_cons.2 ⟨fun y hy => h'.1 y (List.mem_filter.1 hy).1, h'.2.filter _⟩⟩
      rcases List.mem_cons.1 hy with rfl | hy
      · exact h1
      · have := h'.1 y (List.mem_filter.1 hy).1
        show c < y.cat
        omega
    · rename_i h1
      have h1 : ¬ x.cat > c := by simpa using h1
      split
      · exact insP_ris h'.2
      · rename_i h2
        have h2 : x.cat ≠ c := by simpa using h2
        refine List.pairwise_cons.2 ⟨fun y hy => ?_, insP_ris h'.2⟩
        rcases ins_mem hy with rfl | hy
        · show x.cat < c; omega
        · exact h'.1 y hy
theorem q8a {l : List Pr} (h : FitL (q2g l)) : Ris l := ris_lab.1 h.sorted
theorem fit_lev {l : List Pr} (h : FitL (q2g l)) {x : Pr} (hx : x ∈ l) : 0 ≤ x.lev ∧ x.lev ≤ 5 ∧ x.lev ≠ 2 := h.lev (x.cat, x.lev) (List.mem_map.2 ⟨x, hx, rfl⟩)
theorem fit_mk {l : List Pr} (h : Ris l) (hl : ∀ x ∈ l, 0 ≤ x.lev ∧ x.lev ≤ 5 ∧ x.lev ≠ 2) : FitL (q2g l) := ⟨ris_lab.2 h, fun p hp => by obtain ⟨x, hx, rfl⟩ := List.mem_map.1 hp; exact hl x hx⟩
theorem fit_with {l : List Pr} {c lev : Int} (h : FitL (q2g l)) (h1 : 0 ≤ lev) (h2 : lev ≤ 5) : FitL (q2g (q8e l c lev)) := by
  rw [withR_eq]
  split
  · exact fit_mk ((q8a h).filter _) (fun x hx => fit_lev h (List.mem_filter.1 hx).1)
  · rename_i h3
    have h3 : lev ≠ 2 := by simpa using h3
    refine fit_mk (insP_ris (q8a h)) (fun x hx => ?_)
    rcases ins_mem hx with rfl | hx
    · exact ⟨h1, h2, h3⟩
    · exact fit_lev h hx
theorem fit_to {l : List Pr} (h : FitL (q2g l)) : q2x l = true := by
  have hr := q8a h
  refine q2m fun k hk => ?_
  obtain ⟨x, hx⟩ := q2b hk
  unfold q6a
  rw [hx]
  obtain ⟨h1, h2, h3⟩ := fit_lev h (List.mem_of_getElem? hx)
  have a1 : q5y x.lev = true := by unfold q5y; simp only [Bool.and_eq_true, decide_eq_true_eq]; omega
  have a2 : (x.lev == 2) = false := by simpa using h3
  simp only [a1, a2, Bool.not_false, Bool.true_and]
  cases k with
  | zero => rfl
  | succ j =>
    obtain ⟨y, hy⟩ := q2b (by omega : j < l.length)
    simp only [hy]
    have hj := List.getElem?_eq_some_iff.1 hy
    have hkk := List.getElem?_eq_some_iff.1 hx
    have := List.pairwise_iff_getElem.1 hr j (j + 1) hj.1 hkk.1 (by omega)
    rw [hj.2, hkk.2] at this
    simp only [Bool.not_eq_true', decide_eq_false_iff_not]
    omega
theorem x0x (F : Pr → Int) : ∀ (l out : List Pr) (c : Int), Ris l → q1j (l.foldl (fun out p => q8e out p.cat (F p)) out) c = match l.find? (fun p => p.cat == c) with | some p => F p | none => q1j out c
  | [], out, c, _ => rfl
  | x :: l, out, c, h => by
    have h' := List.pairwise_cons.1 h
    rw [List.foldl_cons, x0x F l _ c h'.2, List.find?_cons]
    by_cases hc : x.cat = c
    · have e1 : (x.cat == c) = true := by simpa using hc
      have e2 : l.find? (fun p => p.cat == c) = none := by
        rw [List.find?_eq_none]
        intro y hy
        have := h'.1 y hy
        simp; omega
      rw [e1, e2]
      simp only
      rw [get_with, if_pos hc.symm]
    · have e1 : (x.cat == c) = false := by simpa using hc
      rw [e1]
      simp only
      split
      · rfl
      · rw [get_with, if_neg (fun h => hc h.symm)]
theorem fold_fit (F : Pr → Int) : ∀ (l out : List Pr), FitL (q2g out) → (∀ p ∈ l, 0 ≤ F p ∧ F p ≤ 5) → FitL (q2g (l.foldl (fun out p => q8e out p.cat (F p)) out))
  | [], out, h, _ => h
  | x :: l, out, h, hF => by
    rw [List.foldl_cons]
    have := hF x List.mem_cons_self
    exact fold_fit F l _ (fit_with h this.1 this.2) (fun p hp => hF p (List.mem_cons_of_mem _ hp))
theorem x0w {l : List Pr} {c : Int} {p : Pr} (h : l.find? (fun p => p.cat == c) = some p) : p.cat = c ∧ q1j l c = p.lev := ⟨by simpa using List.find?_some h, by unfold q1j; rw [h]⟩
theorem q6f {l : List Pr} {c : Int} (h : l.find? (fun p => p.cat == c) = none) : q1j l c = 2 := by unfold q1j; rw [h]
theorem levOf_range (n : Int) : 0 ≤ q6r n ∧ q6r n ≤ 5 := by
  unfold q6r q5y; split
  · rename_i h; simp only [Bool.and_eq_true, decide_eq_true_eq] at h; omega
  · omega
theorem q7x (x y : Int) : 0 ≤ q4g x y ∧ q4g x y ≤ 5 := by
  have := levOf_range x; have := levOf_range y
  unfold q4g; split <;> omega
theorem q6n {l : List Pr} (h : FitL (q2g l)) (c : Int) : 0 ≤ q1j l c ∧ q1j l c ≤ 5 := by rw [← q4v]; exact q9l h c
theorem x0j {x y : Int} (hx : 0 ≤ x ∧ x ≤ 5) (hy : 0 ≤ y ∧ y ≤ 5) : q4g x y = max x y := by
  unfold q4g; rw [q7l hx, q7l hy]
  split
  · rename_i h; have := of_decide_eq_true h; omega
  · rename_i h; simp at h; omega
theorem q7m {a b : List Pr} (ha : FitL (q2g a)) : FitL (q2g (joinR a b)) := by
  unfold joinR joinBN joinAN
  exact fold_fit _ _ _ (fold_fit _ _ _ ha (fun p _ => q7x _ _)) (fun p _ => q7x _ _)
theorem joinR_get {a b : List Pr} (ha : FitL (q2g a)) (hb : FitL (q2g b)) (c : Int) : q1j (joinR a b) c = max (q1j a c) (q1j b c) := by
  unfold joinR joinBN joinAN
  rw [List.take_length, List.take_length, x0x (fun p => q4g (q1j a p.cat) p.lev) _ _ c (q8a hb)]
  have ra := q6n ha c
  have rb := q6n hb c
  cases hbf : b.find? (fun p => p.cat == c) with
  | some p =>
    obtain ⟨h1, h2⟩ := x0w hbf
    simp only
    rw [h1, ← h2, x0j ra rb]
  | none =>
    have h2 := q6f hbf
    simp only
    rw [x0x (fun p => q4g p.lev (q1j b p.cat)) _ _ c (q8a ha)]
    cases haf : a.find? (fun p => p.cat == c) with
    | some p =>
      obtain ⟨h3, h4⟩ := x0w haf
      simp only
      rw [h3, ← h4, x0j ra rb]
    | none =>
      have h4 := q6f haf
      simp only
      rw [h4, h2]; rfl
theorem joinNil_get {a : List Pr} (ha : FitL (q2g a)) (c : Int) : q1j (q5x a) c = max (q1j a c) 2 := by
  unfold q5x
  rw [x0x (fun p => q4g p.lev 2) _ _ c (q8a ha)]
  have ra := q6n ha c
  cases haf : a.find? (fun p => p.cat == c) with
  | some p =>
    obtain ⟨h3, h4⟩ := x0w haf
    simp only
    rw [← h4, x0j ra (by omega)]
  | none =>
    have h4 := q6f haf
    simp only
    rw [h4]; rfl
theorem joinNil_fit {a : List Pr} (ha : FitL (q2g a)) : FitL (q2g (q5x a)) := fold_fit _ _ _ ha (fun p _ => q7x _ _)
theorem join_labOf {a b : List Pr} (ha : FitL (q2g a)) (hb : FitL (q2g b)) : joinB (q2g a) (q2g b) = q2g (joinR a b) := by
  refine lab_ext (join_fit ha hb) (q7m ha) (fun c => ?_)
  rw [join_get ha hb, q4v, q4v, q4v, joinR_get ha hb]
theorem x0c {a : List Pr} (ha : q2x a = true) : q7h (q2g a) = q2g (a.map upPr) := by
  rw [← q9e ha]; exact (of_of _).symm
theorem q6h {a : List Pr} (ha : q2x a = true) : FitL (q2g (a.map upPr)) := by rw [← x0c ha]; exact raise_fit (q6x ha)
theorem down_fit {a : List Pr} (ha : FitL (q2g a)) : FitL (q2g (a.map lowPr)) := by
  refine fit_mk ?_ (fun x hx => ?_)
  · unfold Ris; rw [List.pairwise_map]; exact q8a ha
  · obtain ⟨y, hy, rfl⟩ := List.mem_map.1 hx
    obtain ⟨h1, h2, h3⟩ := fit_lev ha hy
    show 0 ≤ q8t y.lev ∧ q8t y.lev ≤ 5 ∧ q8t y.lev ≠ 2
    unfold q8t; rw [q7l ⟨h1, h2⟩]; split <;> omega
theorem down_get (a : List Pr) (c : Int) : q1j (a.map lowPr) c = if a.any (fun p => p.cat == c) = true then q8t (q1j a c) else 2 := by
  induction a with
  | nil => rfl
  | cons x l ih =>
    rw [List.map_cons, q5a, q5a, List.any_cons, ih]
    show (if x.cat = c then q8t x.lev else _) = _
    by_cases h : x.cat = c
    · simp [h]
    · have : (x.cat == c) = false := by simpa using h
      rw [if_neg h, if_neg h, this, Bool.false_or]
theorem lower_labOf {a : List Pr} (ha : FitL (q2g a)) : lowerB (q2g a) = q2g (a.map lowPr) := by
  refine lab_ext (lower_fit ha) (down_fit ha) (fun c => ?_)
  rw [lower_get ha, q4v, q4v, down_get]
  have ra := q6n ha c
  cases h : a.any (fun p => p.cat == c) with
  | true =>
    rw [if_pos rfl]
    unfold q8t; rw [q7l ra]
    by_cases h5 : q1j a c = 5
    · rw [if_pos h5, if_pos (by rw [h5]; rfl)]
    · rw [if_neg h5, if_neg (by simpa using h5)]
  | false =>
    have e : a.find? (fun p => p.cat == c) = none := by
      rw [List.find?_eq_none]
      intro y hy hc
      rw [List.any_eq_false] at h
      exact h y hy hc
    rw [q6f e]; rfl
theorem leqB_eq {a b : List Pr} (ha : q2x a = true) (hb : q2x b = true) : leqB (q2g a) (q2g b) = leqR a b := leq_eq ha hb
theorem plain_eq (l : List Pr) : q5t (q2g l) = plainR l := by
  rw [Bool.eq_iff_iff]
  unfold q5t plainR q2g
  rw [List.all_map, List.all_eq_true, allB_iff]
  constructor
  · intro h k hk
    obtain ⟨x, hx⟩ := q2b hk
    have := h x (List.mem_of_getElem? hx)
    unfold q7c; rw [hx]; simpa using this
  · intro h x hx
    obtain ⟨k, hk⟩ := List.getElem?_of_mem hx
    have := h k (q3w hk)
    unfold q7c at this; rw [hk] at this; simpa using this
theorem enter_eq {t c g k n m : List Pr} (ht : q2x t = true) (hc : q2x c = true) (hg : q2x g = true) (hk : q2x k = true) (hn : q2x n = true) (hm : q2x m = true) : enterB t c g k n m = enterR t c g k n m := by
  unfold enterB enterR
  rw [plain_eq, plain_eq, leqB_eq ht hk, x0c ht, x0c hg, join_labOf (q6h ht) (q6h hg), lower_labOf (q7m (q6h ht)), leqB_eq (fit_to (down_fit (q7m (q6h ht)))) hn, leqB_eq hn hm, join_labOf (q6x hc) (q6x hk), leqB_eq hm (fit_to (q7m (q6x hc)))]
theorem place_eq {d o : List Pr} (hd : q2x d = true) (ho : q2x o = true) : placeB d o = q7i d o := by
  have fx := joinNil_fit (q6h ho)
  have fd := q6x hd
  unfold q7i
  rw [← leq_eq hd (fit_to fx), Bool.eq_iff_iff]
  unfold labLeq placeB
  rw [leqB_iff fd fx, allB_iff]
  have key : ∀ c, getL (q2g (q5x (o.map upPr))) c = max (q1j (q4c o) c) 2 := fun c => by rw [q4v, joinNil_get (q6h ho), q9e ho]
  constructor
  · intro h c
    rw [key, q4v]
    cases hf : d.find? (fun p => p.cat == c) with
    | none => rw [q6f hf]; omega
    | some p =>
      obtain ⟨h1, h2⟩ := x0w hf
      obtain ⟨k, hk⟩ := List.getElem?_of_mem (List.mem_of_find?_eq_some hf)
      have := h k (q3w hk)
      unfold plAt at this
      rw [hk] at this
      simp only [Bool.not_eq_true', decide_eq_false_iff_not] at this
      rw [h2]
      rw [h1] at this
      split at this <;> omega
  · intro h k hk
    obtain ⟨x, hx⟩ := q2b hk
    have := h x.cat
    rw [key, q4v] at this
    have hx2 : q1j d x.cat = x.lev := by rw [← q4v]; exact q9m fd.sorted (p := (_, _)) (List.mem_map.2 ⟨_, List.mem_of_getElem? hx, rfl⟩)
    unfold plAt
    rw [hx]
    simp only [Bool.not_eq_true', decide_eq_false_iff_not]
    rw [hx2] at this
    split <;> omega
end Go.Proofs.YtoibbedpaaeclaaGreat
end

section
namespace Go.Proofs.YtoibbedpaaeclaaGreat
open Go Go.RowKit
set_option linter.unusedVariables false
set_option linter.unusedSimpArgs false
set_option maxHeartbeats 16000000
set_option maxRecDepth 100000
attribute [local irreducible] q0i dr q0d Ex.then Ex.inBlock retQ q1n q2d q2c Pure CSat evOp q1i rdOf upd hset strip sp0 cut envL q1g q3i Keep BdL evBs q2n q2s
theorem chk_place (d o : List Pr) (hd : d.length ≤ 1000) (ho : o.length ≤ 1000) (hs : Sorted (q2g (q4c o))) (hl : (q4c o).length ≤ 1000) : Pure Tryz.prog 231 [.sl (d.map Pr.enc), .sl (o.map Pr.enc)] (.bool (placeB d o)) := by
  have hr := x0i o (by omega)
  have hgt := fun c => label_get (q4c o) c hs (by omega)
  simp only [q4v] at hgt
  refine q2p (by kernel_rfl) (by simp only [go_sem, *]) (by simp only [go_sem, *]) Tryz.func231 Tryz.results231 rfl (by simp [Tryz.ntmps231]) (by kernel_rfl) ?_
  repeat' (first | (show q0i ..; first | refine q0c ?_ | refine q0e rfl ?_) | (show q0k ..; refine q0f rfl rfl ?_) | (show goOn ..; refine q0g ?_) | (show q0d ..; first | refine q0h ?_ | refine q0b ?_ | refine q0m ?_) | refine q0a ?_)
  refine q2l (S := Nat) (fun n => d.length - n) (fun n => n ≤ d.length ∧ ∀ j, j < n → plAt d o j = true) (fun n => [(1, .sl (o.map Pr.enc)), (8, .sl (d.map Pr.enc)), (9, .int .i64 d.length), (10, .int .i64 n)]) (fun _ => []) (fun _ => 0) 0 ⟨Nat.zero_le _, fun j hj => absurd hj (Nat.not_lt_zero j)⟩ (by (refine q1l ?_ ?_ <;> repeat' (first | exact q0v | exact q0y | refine q0p (by (try simp only [go_sem, *]); try rfl) (by simp only [go_sem, *]) ?_ | refine q0z (by (try simp only [go_sem, *]); try rfl) (by omega) (by simp only [go_sem, *]) ?_ | refine q0x (by (try simp only [go_sem, *]); try rfl) (by omega) (by simp only [go_sem, *]) ?_))) ?_
  rintro n ⟨hn, hs⟩
  rcases Nat.lt_or_ge n d.length with hlt | hge
  · obtain ⟨x, hx⟩ := q2b hlt
    have h0 := q2h hlt
    have h4 := q2a n (by omega)
    have e : plAt d o n = !decide (x.lev > if 2 > q1j (q4c o) x.cat then 2 else q1j (q4c o) x.cat) := by unfold plAt; rw [hx]
    repeat' (first | (show q0i ..; first | refine q0c ?_ | refine q0e rfl ?_) | (show q0k ..; refine q0f rfl rfl ?_) | (show goOn ..; first | refine q0g ?_ | refine q1d ?_ | refine q1x ?_) | (show q2w ..; refine q1h ?_) | (show dr ..; first | refine q1y ?_ | refine dr_n rfl ?_) | (show drGo ..; first | refine q2t rfl ?_ | refine q2k rfl ?_) | (show drOn ..; refine q1z ?_) | (show q2e ..; (refine q1f (r := ?_) ?_ ?_; rotate_left 1; (focus first | exact hr | exact hgt _))) | (refine And.intro (by kernel_rfl : q1n _ = true) ?_) | (show q0d ..; first | refine q0h ?_ | refine q0b ?_ | refine q1o (by kernel_rfl) ?_ | refine q0t ?_ | refine q0s ?_ | refine q0m ?_ | refine q0j ?_) | (show q0o ..; first | refine cd_t ?_ | refine cd_b (fun _ => ?_) (fun _ => ?_)) | refine q0a ?_ | refine q2j ?_ | refine q0q ?_ | refine q3k ?_ | (show retQ ..; refine q0u ?_) | refine q0n ?_)
    all_goals rename_i hc
    · exact q1u (q2o hlt (f := plAt d o) (by rw [e, hc]; rfl)).symm
    · exact again (n + 1) ⟨by omega, q5d hs (by rw [e, hc]; rfl)⟩ (by omega) (by (refine q1l ?_ ?_ <;> repeat' (first | exact q0v | exact q0y | refine q0p (by (try simp only [go_sem, *]); try rfl) (by simp only [go_sem, *]) ?_ | refine q0z (by (try simp only [go_sem, *]); try rfl) (by omega) (by simp only [go_sem, *]) ?_ | refine q0x (by (try simp only [go_sem, *]); try rfl) (by omega) (by simp only [go_sem, *]) ?_)))
  · have h0 := q1q hge
    repeat' (first | (show q0i ..; first | refine q0c ?_ | refine q0e rfl ?_) | (show q0k ..; refine q0f rfl rfl ?_) | (show goOn ..; refine q0g ?_) | (show q0d ..; first | refine q0h ?_ | refine q0b ?_ | refine q0t ?_ | refine q1s ?_ | refine q0j ?_) | (show q0o ..; refine cd_f ?_) | refine q0a ?_ | refine q1r ?_ | refine q1t ?_ | (show retQ ..; refine q0u ?_) | refine q0n ?_)
    exact q1u (q2m fun j hj => hs j (by omega)).symm
end Go.Proofs.YtoibbedpaaeclaaGreat
end

section
namespace Go.Proofs.YtoibbedpaaeclaaGreat
open Go Go.RowKit
set_option linter.unusedVariables false
set_option linter.unusedSimpArgs false
set_option maxHeartbeats 16000000
set_option maxRecDepth 100000
noncomputable def fewS (w : Wd) : Bool := !decide ((w.objects.length : Int) > 24) && (allB w.objects.length (fewAt w.objects) && fitW w)
theorem fewS_f {w : Wd} (h1 : decide ((w.objects.length : Int) > 24) = false) (h2 : allB w.objects.length (fewAt w.objects) = true) : FewW w := by
  have h1 := of_decide_eq_false h1
  refine ⟨by omega, fun x hx => ?_⟩
  obtain ⟨k, hk⟩ := List.getElem?_of_mem hx
  have := allB_iff.1 h2 k (q3w hk)
  unfold fewAt at this
  rw [hk] at this
  simp only [Bool.not_eq_true', Bool.or_eq_false_iff, decide_eq_false_iff_not] at this
  omega
theorem fewS_of {w : Wd} (h : fewS w = true) : FewW w ∧ fitW w = true := by
  unfold fewS at h
  simp only [Bool.and_eq_true, Bool.not_eq_true'] at h
  exact ⟨fewS_f h.1 h.2.1, h.2.2⟩
def isThr (w : Wd) (id : Int) : Bool := (q2i w id).2 && ((q2i w id).1.kind == 4)
attribute [local irreducible] q0i dr q0d Ex.then Ex.inBlock retQ q1n q2d q2c Pure CSat evOp q1i rdOf upd hset strip sp0 cut envL q1g q3i Keep BdL evBs q2n q2s
theorem law19_few (w : Wd) (hl : w.objects.length ≤ 9223372036854775807) (ho : ∀ x ∈ w.objects, x.L) : Pure Tryz.prog 32 [.agg (Wd.enc w)] (.bool (fewS w)) := by
  cases h1 : decide ((w.objects.length : Int) > 24) with
  | true =>
    refine q2p (by kernel_rfl) (by simp only [go_sem, *]) (by simp only [go_sem, *]) Tryz.func32 Tryz.results32 rfl (by simp [Tryz.ntmps32]) (by kernel_rfl) ?_
    repeat' (first | (show q0i ..; first | refine q0c ?_ | refine q0e rfl ?_) | (show q0k ..; refine q0f rfl rfl ?_) | (show goOn ..; first | refine q0g ?_ | refine q1d ?_) | (show q0d ..; first | refine q0h ?_ | refine q0b ?_ | refine q0t ?_ | refine q0j ?_) | (show q0o ..; refine cd_t ?_) | refine q0a ?_ | refine q2j ?_ | (show retQ ..; refine q0u ?_) | refine q0n ?_)
    all_goals (refine q1u ?_; unfold fewS; rw [h1]; rfl)
  | false =>
  have h1' := of_decide_eq_false h1
  have fin : ∀ b, (allB w.objects.length (fewAt w.objects) && fitW w) = b → b = fewS w := fun b hb => by unfold fewS; rw [h1, hb]; rfl
  refine q2p (by kernel_rfl) (by simp only [go_sem, *]) (by simp only [go_sem, *]) Tryz.func32 Tryz.results32 rfl (by simp [Tryz.ntmps32]) (by kernel_rfl) ?_
  repeat' (first | (show q0i ..; first | refine q0c ?_ | refine q0e rfl ?_) | (show q0k ..; refine q0f rfl rfl ?_) | (show goOn ..; first | refine q0g ?_ | refine q1d ?_) | (show q0d ..; first | refine q0h ?_ | refine q0b ?_ | refine q0s ?_ | refine q0m ?_ | refine q0j ?_) | (show q0o ..; refine cd_f ?_) | refine q0a ?_)
  refine q2l (S := Nat) (fun n => w.objects.length - n) (fun n => n ≤ w.objects.length ∧ ∀ j, j < n → fewAt w.objects j = true) (fun n => [(1, .ptr 0 0), (10, .sl (w.objects.map Ob.enc)), (11, .int .i64 w.objects.length), (12, .int .i64 n)]) (fun _ => [(0, .box (Wd.enc w))]) (fun _ => 1) 0 ⟨Nat.zero_le _, fun j hj => absurd hj (Nat.not_lt_zero j)⟩ (by (refine q1l ?_ ?_ <;> repeat' (first | exact q0v | exact q0y | refine q0p (by (try simp only [go_sem, *]); try rfl) (by simp only [go_sem, *]) ?_ | refine q0z (by (try simp only [go_sem, *]); try rfl) (by omega) (by simp only [go_sem, *]) ?_ | refine q0x (by (try simp only [go_sem, *]); try rfl) (by omega) (by simp only [go_sem, *]) ?_))) ?_
  rintro n ⟨hn, hs⟩
  rcases Nat.lt_or_ge n w.objects.length with hlt | hge
  · obtain ⟨x, hx⟩ := q2b hlt
    have h0 := q2h hlt
    have h4 := q2a n (by omega)
    have e : fewAt w.objects n = !(decide ((x.label.length : Int) > 20) || (decide ((x.links.length : Int) > 70) || (decide ((x.data.length : Int) > 300) || decide ((x.maps.length : Int) > 20)))) := by unfold fewAt; rw [hx]
    repeat' (first | (show q0i ..; first | refine q0c ?_ | refine q0e rfl ?_ | refine q1a rfl rfl ?_) | (show q0k ..; refine q0f rfl rfl ?_) | (show goOn ..; first | refine q0g ?_ | refine q1d ?_ | refine q1x ?_) | (show q2w ..; refine q1h ?_) | (show wGo ..; first | refine q4b ?_ | refine q4y ?_ | refine gw_fb (fun _ => ?_) (fun _ => ?_)) | (show q0d ..; first | refine q0h ?_ | refine q0b ?_ | refine q0t ?_ | refine q0s ?_ | refine q0m ?_ | refine q0j ?_) | (show q0o ..; first | refine cd_t ?_ | refine cd_b (fun _ => ?_) (fun _ => ?_)) | refine q0a ?_ | refine q2j ?_ | refine q0q ?_ | refine q3k ?_ | (show retQ ..; refine q0u ?_) | refine q0n ?_)
    all_goals first
      | (refine q1u (fin _ ?_); rw [q2o hlt (by rw [e]; simp only [*, Bool.not_true, Bool.not_false, Bool.and_true, Bool.true_and, Bool.and_false, Bool.false_and, Bool.or_true, Bool.true_or, Bool.or_false, Bool.false_or, Bool.and_self, Bool.or_self, decide_true, decide_false, Bool.not_not, if_true, if_false, Bool.false_eq_true, eq_self])]; rfl)
      | (refine again (n + 1) ⟨hlt, q5d hs ?_⟩ (show w.objects.length - (n + 1) < w.objects.length - n by omega) (by (refine q1l ?_ ?_ <;> repeat' (first | exact q0v | exact q0y | refine q0p (by (try simp only [go_sem, *]); try rfl) (by simp only [go_sem, *]) ?_ | refine q0z (by (try simp only [go_sem, *]); try rfl) (by omega) (by simp only [go_sem, *]) ?_ | refine q0x (by (try simp only [go_sem, *]); try rfl) (by omega) (by simp only [go_sem, *]) ?_))); rw [e]; simp only [*, Bool.not_true, Bool.not_false, Bool.and_true, Bool.true_and, Bool.and_false, Bool.false_and, Bool.or_true, Bool.true_or, Bool.or_false, Bool.false_or, Bool.and_self, Bool.or_self, decide_true, decide_false, Bool.not_not, if_true, if_false, Bool.false_eq_true, eq_self]; done)
  · have h0 := q1q hge
    have hall : allB w.objects.length (fewAt w.objects) = true := q2m fun j hj => hs j (by omega)
    have hfew := fewS_f h1 hall
    have hft := r14_fit w ⟨hl, fun x hx => ⟨ho x hx, by have := (hfew.ob x hx).1; omega⟩⟩ hfew
    clear ho
    have hfin := fin (fitW w) (by rw [hall]; rfl)
    clear fin
    repeat' (first | (show q0i ..; first | refine q0c ?_ | refine q0e rfl ?_) | (show q0k ..; first | refine q0f rfl rfl ?_ | refine q0l rfl ?_) | (show goOn ..; refine q0g ?_) | (show q1k ..; (refine q0r (r := ?_) ?_ ?_; rotate_left 1; (focus exact hft))) | (show q0d ..; first | refine q0h ?_ | refine q0b ?_ | refine q0t ?_ | refine q1s ?_ | refine q0j ?_) | (show q0o ..; refine cd_f ?_) | refine q0a ?_ | refine q1r ?_ | refine q1t ?_ | (show retQ ..; refine q0u ?_) | refine q0n ?_)
    all_goals first | rfl | (refine q1u ?_; first | exact hfin | exact hfin.symm) | (rw [hfin]) | (rw [← hfin])
theorem law23_few (w : Wd) (hl : w.objects.length ≤ 9223372036854775807) (ho : ∀ x ∈ w.objects, x.L) : Pure Tryz.prog 23 [.agg (Wd.enc w)] (.bool (fewS w)) := by
  cases h1 : decide ((w.objects.length : Int) > 24) with
  | true =>
    refine q2p (by kernel_rfl) (by simp only [go_sem, *]) (by simp only [go_sem, *]) Tryz.func23 Tryz.results23 rfl (by simp [Tryz.ntmps23]) (by kernel_rfl) ?_
    repeat' (first | (show q0i ..; first | refine q0c ?_ | refine q0e rfl ?_) | (show q0k ..; refine q0f rfl rfl ?_) | (show goOn ..; first | refine q0g ?_ | refine q1d ?_) | (show q0d ..; first | refine q0h ?_ | refine q0b ?_ | refine q0t ?_ | refine q0j ?_) | (show q0o ..; refine cd_t ?_) | refine q0a ?_ | refine q2j ?_ | (show retQ ..; refine q0u ?_) | refine q0n ?_)
    all_goals (refine q1u ?_; unfold fewS; rw [h1]; rfl)
  | false =>
  have h1' := of_decide_eq_false h1
  have fin : ∀ b, (allB w.objects.length (fewAt w.objects) && fitW w) = b → b = fewS w := fun b hb => by unfold fewS; rw [h1, hb]; rfl
  refine q2p (by kernel_rfl) (by simp only [go_sem, *]) (by simp only [go_sem, *]) Tryz.func23 Tryz.results23 rfl (by simp [Tryz.ntmps23]) (by kernel_rfl) ?_
  repeat' (first | (show q0i ..; first | refine q0c ?_ | refine q0e rfl ?_) | (show q0k ..; refine q0f rfl rfl ?_) | (show goOn ..; first | refine q0g ?_ | refine q1d ?_) | (show q0d ..; first | refine q0h ?_ | refine q0b ?_ | refine q0s ?_ | refine q0m ?_ | refine q0j ?_) | (show q0o ..; refine cd_f ?_) | refine q0a ?_)
  refine q2l (S := Nat) (fun n => w.objects.length - n) (fun n => n ≤ w.objects.length ∧ ∀ j, j < n → fewAt w.objects j = true) (fun n => [(1, .ptr 0 0), (10, .sl (w.objects.map Ob.enc)), (11, .int .i64 w.objects.length), (12, .int .i64 n)]) (fun _ => [(0, .box (Wd.enc w))]) (fun _ => 1) 0 ⟨Nat.zero_le _, fun j hj => absurd hj (Nat.not_lt_zero j)⟩ (by (refine q1l ?_ ?_ <;> repeat' (first | exact q0v | exact q0y | refine q0p (by (try simp only [go_sem, *]); try rfl) (by simp only [go_sem, *]) ?_ | refine q0z (by (try simp only [go_sem, *]); try rfl) (by omega) (by simp only [go_sem, *]) ?_ | refine q0x (by (try simp only [go_sem, *]); try rfl) (by omega) (by simp only [go_sem, *]) ?_))) ?_
  rintro n ⟨hn, hs⟩
  rcases Nat.lt_or_ge n w.objects.length with hlt | hge
  · obtain ⟨x, hx⟩ := q2b hlt
    have h0 := q2h hlt
    have h4 := q2a n (by omega)
    have e : fewAt w.objects n = !(decide ((x.label.length : Int) > 20) || (decide ((x.links.length : Int) > 70) || (decide ((x.data.length : Int) > 300) || decide ((x.maps.length : Int) > 20)))) := by unfold fewAt; rw [hx]
    repeat' (first | (show q0i ..; first | refine q0c ?_ | refine q0e rfl ?_ | refine q1a rfl rfl ?_) | (show q0k ..; refine q0f rfl rfl ?_) | (show goOn ..; first | refine q0g ?_ | refine q1d ?_ | refine q1x ?_) | (show q2w ..; refine q1h ?_) | (show wGo ..; first | refine q4b ?_ | refine q4y ?_ | refine gw_fb (fun _ => ?_) (fun _ => ?_)) | (show q0d ..; first | refine q0h ?_ | refine q0b ?_ | refine q0t ?_ | refine q0s ?_ | refine q0m ?_ | refine q0j ?_) | (show q0o ..; first | refine cd_t ?_ | refine cd_b (fun _ => ?_) (fun _ => ?_)) | refine q0a ?_ | refine q2j ?_ | refine q0q ?_ | refine q3k ?_ | (show retQ ..; refine q0u ?_) | refine q0n ?_)
    all_goals first
      | (refine q1u (fin _ ?_); rw [q2o hlt (by rw [e]; simp only [*, Bool.not_true, Bool.not_false, Bool.and_true, Bool.true_and, Bool.and_false, Bool.false_and, Bool.or_true, Bool.true_or, Bool.or_false, Bool.false_or, Bool.and_self, Bool.or_self, decide_true, decide_false, Bool.not_not, if_true, if_false, Bool.false_eq_true, eq_self])]; rfl)
      | (refine again (n + 1) ⟨hlt, q5d hs ?_⟩ (show w.objects.length - (n + 1) < w.objects.length - n by omega) (by (refine q1l ?_ ?_ <;> repeat' (first | exact q0v | exact q0y | refine q0p (by (try simp only [go_sem, *]); try rfl) (by simp only [go_sem, *]) ?_ | refine q0z (by (try simp only [go_sem, *]); try rfl) (by omega) (by simp only [go_sem, *]) ?_ | refine q0x (by (try simp only [go_sem, *]); try rfl) (by omega) (by simp only [go_sem, *]) ?_))); rw [e]; simp only [*, Bool.not_true, Bool.not_false, Bool.and_true, Bool.true_and, Bool.and_false, Bool.false_and, Bool.or_true, Bool.true_or, Bool.or_false, Bool.false_or, Bool.and_self, Bool.or_self, decide_true, decide_false, Bool.not_not, if_true, if_false, Bool.false_eq_true, eq_self]; done)
  · have h0 := q1q hge
    have hall : allB w.objects.length (fewAt w.objects) = true := q2m fun j hj => hs j (by omega)
    have hfew := fewS_f h1 hall
    have hft := r14_fit w ⟨hl, fun x hx => ⟨ho x hx, by have := (hfew.ob x hx).1; omega⟩⟩ hfew
    clear ho
    have hfin := fin (fitW w) (by rw [hall]; rfl)
    clear fin
    repeat' (first | (show q0i ..; first | refine q0c ?_ | refine q0e rfl ?_) | (show q0k ..; first | refine q0f rfl rfl ?_ | refine q0l rfl ?_) | (show goOn ..; refine q0g ?_) | (show q1k ..; (refine q0r (r := ?_) ?_ ?_; rotate_left 1; (focus exact hft))) | (show q0d ..; first | refine q0h ?_ | refine q0b ?_ | refine q0t ?_ | refine q1s ?_ | refine q0j ?_) | (show q0o ..; refine cd_f ?_) | refine q0a ?_ | refine q1r ?_ | refine q1t ?_ | (show retQ ..; refine q0u ?_) | refine q0n ?_)
    all_goals first | rfl | (refine q1u ?_; first | exact hfin | exact hfin.symm) | (rw [hfin]) | (rw [← hfin])
theorem law23_thread (w : Wd) (id : Int) (hl : w.objects.length ≤ 1000000) : Pure Tryz.prog 24 [.agg (Wd.enc w), .int .u64 id] (.bool (isThr w id)) := by
  have h1 := q6u w id hl
  unfold isThr
  generalize q2i w id = F at h1 ⊢
  obtain ⟨o, b⟩ := F
  simp only at h1 ⊢
  cases b with
  | false =>
    refine q2p (by kernel_rfl) (by simp only [go_sem, *]) (by simp only [go_sem, *]) Tryz.func24 Tryz.results24 rfl (by simp [Tryz.ntmps24]) (by kernel_rfl) ?_
    repeat' (first | (show q0i ..; first | refine q0c ?_ | refine q0e rfl ?_ | refine q1a rfl rfl ?_) | (show q0k ..; first | refine q0f rfl rfl ?_ | refine q0l rfl ?_) | (show goOn ..; first | refine q0g ?_ | refine q1d ?_ | refine q1x ?_) | (show q2w ..; refine q1h ?_) | (show q1k ..; (refine q0r (r := ?_) ?_ ?_; rotate_left 1; (focus exact h1))) | (show wGo ..; refine q3r ?_) | (show q0d ..; first | refine q0h ?_ | refine q0b ?_ | refine q0t ?_) | refine q0a ?_ | (show retQ ..; refine q0u ?_) | refine q0n ?_)
    all_goals rfl
  | true =>
    refine q2p (by kernel_rfl) (by simp only [go_sem, *]) (by simp only [go_sem, *]) Tryz.func24 Tryz.results24 rfl (by simp [Tryz.ntmps24]) (by kernel_rfl) ?_
    repeat' (first | (show q0i ..; first | refine q0c ?_ | refine q0e rfl ?_ | refine q1a rfl rfl ?_) | (show q0k ..; first | refine q0f rfl rfl ?_ | refine q0l rfl ?_) | (show goOn ..; first | refine q0g ?_ | refine q1d ?_ | refine q1x ?_) | (show q2w ..; refine q1h ?_) | (show q1k ..; (refine q0r (r := ?_) ?_ ?_; rotate_left 1; (focus exact h1))) | (show wGo ..; refine q3h ?_) | (show q0d ..; first | refine q0h ?_ | refine q0b ?_ | refine q0t ?_) | refine q0a ?_ | (show retQ ..; refine q0u ?_) | refine q0n ?_)
    all_goals rfl
end Go.Proofs.YtoibbedpaaeclaaGreat
end

section
namespace Go.Proofs.YtoibbedpaaeclaaGreat
open Go Go.RowKit
set_option linter.unusedVariables false
set_option linter.unusedSimpArgs false
set_option maxHeartbeats 4000000
structure Thr (o : Ob) : Prop where
  lab : kept o.label = true
  fit : q8f o.label o.thread = true
  fixed : o.fixed = false
  links : o.links = []
  data : o.data = []
  maps : o.maps = []
theorem thr_of {o : Ob} (hs : sound o = true) (hk : o.kind = 4) : Thr o := by
  have k1 : (o.kind == 1) = false := by rw [hk]; rfl
  have k2 : (o.kind == 2) = false := by rw [hk]; rfl
  have k3 : (o.kind == 3) = false := by rw [hk]; rfl
  have k4 : (o.kind == 4) = true := by rw [hk]; rfl
  have e : q6p o = { Ob.zero with id := o.id, kind := o.kind, label := o.label, quota := o.quota, fixed := o.fixed, thread := o.thread } := by
    unfold q6p; rw [k1, k2, k3, k4]; rfl
  have ei : inner o = (q8f o.label o.thread && !o.fixed) := by unfold inner; rw [k1, k2, k3, k4]; rfl
  unfold sound q6j at hs
  rw [e, ei] at hs
  simp only [q8c, Bool.and_eq_true, Bool.not_eq_true', decide_eq_true_eq] at hs
  obtain ⟨⟨_, _, _, h1, _, _, _, h2, h3, h4, _⟩, _, h5, h6⟩ := hs
  exact ⟨h1, h5, h6, h2.symm, h3.symm, h4.symm⟩
theorem thr_mk {o : Ob} (hs : sound o = true) (hk : o.kind = 4) {l : List Pr} {th : Th} (h1 : kept l = true) (h2 : q8f l th = true) : sound { o with label := l, thread := th } = true := by
  have k1 : (o.kind == 1) = false := by rw [hk]; rfl
  have k2 : (o.kind == 2) = false := by rw [hk]; rfl
  have k3 : (o.kind == 3) = false := by rw [hk]; rfl
  have k4 : (o.kind == 4) = true := by rw [hk]; rfl
  have e : q6p o = { Ob.zero with id := o.id, kind := o.kind, label := o.label, quota := o.quota, fixed := o.fixed, thread := o.thread } := by
    unfold q6p; rw [k1, k2, k3, k4]; rfl
  have ei : inner o = (q8f o.label o.thread && !o.fixed) := by unfold inner; rw [k1, k2, k3, k4]; rfl
  have e' : q6p { o with label := l, thread := th } = { Ob.zero with id := o.id, kind := o.kind, label := l, quota := o.quota, fixed := o.fixed, thread := th } := by
    unfold q6p; simp only [k1, k2, k3, k4, if_true, if_false, Bool.false_eq_true]
  have ei' : inner { o with label := l, thread := th } = (q8f l th && !o.fixed) := by unfold inner; simp only [k1, k2, k3, k4, if_true, if_false, Bool.false_eq_true]
  unfold sound q6j at hs ⊢
  rw [e, ei] at hs
  rw [e', ei']
  simp only [q8c, Bool.and_eq_true, Bool.not_eq_true', decide_eq_true_eq, k4, h1, h2, true_and, and_true, Bool.true_or, sameTh_refl, beq_self_eq_true] at hs ⊢
  obtain ⟨⟨a1, a2, a3, a4, a5, a6, a7, a8, a9, b1, b2, b3⟩, a10, a11⟩ := hs
  exact ⟨⟨a1, a2, a3, a5, a6, a7, a8, a9, b1, b2, b3⟩, a11⟩
theorem ins_mem' {w : Wd} {o p y : Ob} (hr : RisO w.objects) (ho : o ∈ w.objects) (hid : p.id = o.id) (hy : y ∈ (w.ins p).objects) : y = p ∨ y ∈ w.objects := by
  rw [show (w.ins p).objects = w.objects.map fun x => if x.id = o.id then p else x from x0v hr ho hid] at hy
  obtain ⟨z, hz, rfl⟩ := List.mem_map.1 hy
  split
  · exact .inl rfl
  · exact .inr hz
theorem few_ins {w : Wd} {o p : Ob} (hf : FewW w) (hr : RisO w.objects) (ho : o ∈ w.objects) (hid : p.id = o.id) (h1 : p.label.length ≤ 20) (h2 : p.links.length ≤ 70) (h3 : p.data.length ≤ 300) (h4 : p.maps.length ≤ 20) : FewW (w.ins p) := by
  refine ⟨?_, fun y hy => ?_⟩
  · rw [show (w.ins p).objects = w.objects.map fun x => if x.id = o.id then p else x from x0v hr ho hid, List.length_map]; exact hf.n
  · rcases ins_mem' hr ho hid hy with rfl | hy
    · exact ⟨h1, h2, h3, h4⟩
    · exact hf.ob y hy
theorem thr_good {w : Wd} (g : Good w) {o : Ob} (ho : o ∈ w.objects) (hk : o.kind = 4) {l : List Pr} {th : Th} (h1 : kept l = true) (h2 : q8f l th = true) (hsp : th.span = o.thread.span) (hL : th.L) (hpl : ∀ d ∈ w.objects, o.id ∈ d.links → q7i d.label l = true) :
    Good (w.ins { o with label := l, thread := th }) := by
  have hwd := q7o g.fit
  have hs := q5w hwd ho
  have ht := thr_of hs hk
  have hr := (q5q hwd).1
  obtain ⟨l1, l2, l3, l4, l5, l6, l7, l8⟩ := (g.L.2 o ho).1
  have hln := q5h h1
  have hl2 : l.length ≤ maxLen := Nat.le_trans hln (by decide)
  refine ⟨ins_L g.L ⟨hl2, l2, l3, l4, hL, l6, l7, l8⟩ (by show l.length ≤ _; omega) (by have := g.few.n; omega), few_ins g.few hr ho rfl (by show l.length ≤ 20; omega) (by show o.links.length ≤ 70; rw [ht.links]; decide) (by show o.data.length ≤ 300; rw [ht.data]; decide) (by show o.maps.length ≤ 20; rw [ht.maps]; decide), ?_⟩
  exact lab_fit g.fit ho (by unfold hl; simp only [hsp]) ht.links (thr_mk hs hk h1 h2) hpl
theorem find_self {w : Wd} (hr : RisO w.objects) {o : Ob} (ho : o ∈ w.objects) (hp : 1 ≤ o.id) : q2i w o.id = (o, true) := by
  have := fnd_mem hr ho
  unfold fnd at this
  unfold q2i
  rw [this]
theorem find_p {w : Wd} (hf : FewW w) (hw : fitW w = true) (id : Int) : Pure Tryz.prog 60 [.agg (Wd.enc w), .int .u64 id] (.tup [.agg (Ob.enc (q2i w id).1), .bool (q2i w id).2]) := by
  have := obj_find w id (by have := hf.n; omega) (q5q (q7o hw)).1
  rw [findO_eq (q5q (q7o hw)).1] at this
  exact this
theorem find_lab {w : Wd} (hf : FewW w) (hw : fitW w = true) (id : Int) : q2x (q2i w id).1.label = true := (okay_fit (x0r hf (q7o hw) id)).2
theorem place_p {w : Wd} (g : Good w) (x : Int) {l : List Pr} (hl : q2x l = true) (hll : l.length ≤ 16) : Pure Tryz.prog 231 [.sl ((q2i w x).1.label.map Pr.enc), .sl (l.map Pr.enc)] (.bool (q7i (q2i w x).1.label l)) := by
  rw [← place_eq (find_lab g.few g.fit x) hl]
  have e := q9e hl
  exact chk_place _ _ (by have := x0y g.few x; omega) (by omega) (sorted_iff.2 (by rw [e]; exact (q6h hl).sorted)) (by rw [e, List.length_map]; omega)
/-- May a thread have a label where it lies? -/
def liesAt (w : Wd) (id : Int) (l : List Pr) (k : Nat) : Bool := match (q2y w id)[k]? with
  | some d => q7i (q2i w d).1.label l
  | none => true
def liesR (w : Wd) (id : Int) (l : List Pr) : Bool := allB (q2y w id).length (liesAt w id l)
theorem lies_ok {w : Wd} (g : Good w) {id : Int} {l : List Pr} (h : liesR w id l = true) : ∀ d ∈ w.objects, id ∈ d.links → q7i d.label l = true := by
  intro d hd hi
  have hwd := q7o g.fit
  have hr := (q5q hwd).1
  have : d.id ∈ q2y w id := List.mem_map.2 ⟨d, List.mem_filter.2 ⟨hd, List.any_eq_true.2 ⟨id, hi, by simp⟩⟩, rfl⟩
  obtain ⟨k, hk⟩ := List.getElem?_of_mem this
  have h1 := allB_iff.1 h k (q3w hk)
  unfold liesAt at h1
  rw [hk] at h1
  simp only at h1
  rw [find_self hr hd (sound_pos (q5w hwd hd))] at h1
  exact h1
end Go.Proofs.YtoibbedpaaeclaaGreat
end

section
namespace Go.Proofs.YtoibbedpaaeclaaGreat.kgate
open Go Go.RowKit Go.Proofs.YtoibbedpaaeclaaGreat
set_option linter.unusedVariables false
set_option linter.unusedSimpArgs false
set_option maxHeartbeats 4000000
def gone (t : Ob) (l c : List Pr) (g : Gt) (x : Int) : Ob := { t with label := l, thread := { t.thread with regs := fun i => if i = 3 then x else t.thread.regs i, pc := g.pc, clear := c, space := g.space } }
noncomputable def q6b (w : Wd) (t : Ob) (a : Nat → Int) : Ob × Int := seeR w t ⟨a 0, a 1⟩ 5
def la (t : Ob) (a : Nat → Int) (k : Nat) : List Pr := t.thread.labs (a k).toNat
noncomputable def mayR (w : Wd) (t : Ob) (a : Nat → Int) : Bool := enterR t.label t.thread.clear (q6b w t a).1.gate.grant (q6b w t a).1.gate.clear (la t a 2) (la t a 3) && liesR w t.id (la t a 2)
noncomputable def q4f (w : Wd) (t : Ob) (a : Nat → Int) : Wd × Int × Int × Bool :=
  if (decide (a 2 < 4) && decide (a 3 < 4)) = true then
    if ((q6b w t a).2 == 0) = true then
      if mayR w t a = true then (w.ins (gone t (la t a 2) (la t a 3) (q6b w t a).1.gate (a 4)), (q6b w t a).1.gate.arg, 0, true) else (w, 0, 2, true)
    else (w, 0, (q6b w t a).2, true)
  else (w, 0, 4, true)
noncomputable def q5u (w : Wd) (t : Ob) (n : Int) (a : Nat → Int) : Wd × Int × Int × Bool :=
  if (n == 40) = true then q4f w t a else (w, 0, 0, false)
theorem enter_err (w : Wd) (t : Ob) (a : Nat → Int) : ((q4f w t a).2.2.1 == 0) = false → (q4f w t a).1 = w ∧ (q4f w t a).2.1 = 0 ∧ (q4f w t a).2.2.2 = true := by
  unfold q4f
  intro h
  repeat' split
  all_goals first
    | exact ⟨rfl, rfl, rfl⟩
    | (exfalso; simp_all)
theorem enter_k (w : Wd) (t : Ob) (a : Nat → Int) : (q4f w t a).2.2.2 = true := by
  unfold q4f
  repeat' split
  all_goals rfl
theorem kgate_err (w : Wd) (t : Ob) (n : Int) (a : Nat → Int) : ((q5u w t n a).2.2.1 == 0) = false → (q5u w t n a).1 = w ∧ (q5u w t n a).2.1 = 0 ∧ (q5u w t n a).2.2.2 = true := by
  unfold q5u
  split
  · exact enter_err w t a
  · intro h; simp at h
theorem q9b {l : List Pr} {th : Th} (h : q8f l th = true) {i : Nat} (hi : i < 4) : kept (th.labs i) = true := by
  unfold q8f at h; simp only [Bool.and_eq_true] at h; exact allB_iff.1 h.1 i hi
theorem thr_clear {l : List Pr} {th : Th} (h : q8f l th = true) : kept th.clear = true ∧ leqR l th.clear = true := by
  unfold q8f at h; simp only [Bool.and_eq_true] at h; exact ⟨h.2.2.1, h.2.2.2.1⟩
theorem thr_new {l l' c : List Pr} {th : Th} (h : q8f l th = true) (hc : kept c = true) (hl : leqR l' c = true) (regs : Nat → Int) (pc : Int) (sp : Rf) : q8f l' { th with regs := regs, pc := pc, clear := c, space := sp } = true := by
  unfold q8f at h ⊢
  simp only [Bool.and_eq_true] at h ⊢
  exact ⟨h.1, h.2.1, hc, hl, h.2.2.2.2⟩
theorem isThr_ok {w : Wd} {id : Int} (h : isThr w id = true) : (q2i w id).1 ∈ w.objects ∧ (q2i w id).1.id = id ∧ (q2i w id).1.kind = 4 := by
  unfold isThr at h
  rw [Bool.and_eq_true] at h
  obtain ⟨h1, h2⟩ := find_id h.1
  exact ⟨h2, h1, by simpa using h.2⟩
theorem kgate_good {w : Wd} (g : Good w) {t : Ob} (ht : t ∈ w.objects) (hk : t.kind = 4) (n : Int) (a : Nat → Int) (ha : ∀ i, i < 7 → 0 ≤ a i) : Good (q5u w t n a).1 := by
  unfold q5u
  split
  · unfold q4f
    split
    · rename_i h1
      split
      · split
        · rename_i h3
          simp only [Bool.and_eq_true, decide_eq_true_eq] at h1
          unfold mayR at h3
          rw [Bool.and_eq_true] at h3
          have hs := q5w (q7o g.fit) ht
          have hT := thr_of hs hk
          have a2 := ha 2 (by decide)
          have a3 := ha 3 (by decide)
          have k2 : kept (la t a 2) = true := q9b hT.fit (by omega)
          have k3 : kept (la t a 3) = true := q9b hT.fit (by omega)
          have hle : leqR (la t a 2) (la t a 3) = true := by
            have := h3.1
            unfold enterR at this
            simp only [Bool.and_eq_true] at this
            exact this.2.2.2.2.1
          obtain ⟨m1, m2, m3⟩ := (g.L.2 t ht).1.2.2.2.2.1
          have l3 := q5h k3
          exact thr_good g ht hk k2 (thr_new hT.fit k3 hle _ _ _) rfl ⟨Nat.le_trans l3 (by decide), m2, m3⟩ (lies_ok g h3.2)
        · exact g
      · exact g
    · exact g
  · exact g
end Go.Proofs.YtoibbedpaaeclaaGreat.kgate
end

section
namespace Go.Proofs.YtoibbedpaaeclaaGreat
open Go Go.RowKit
set_option linter.unusedVariables false
set_option linter.unusedSimpArgs false
set_option maxHeartbeats 16000000
set_option maxRecDepth 100000
attribute [local irreducible] q0i dr q0d Ex.then Ex.inBlock retQ q1n q2d q2c Pure CSat evOp q1i rdOf upd hset strip sp0 cut envL q1g q3i Keep BdL evBs q2n q2s
def RisU (l : List Int) : Prop := ∀ (i j : Nat) (x y : Int), l[i]? = some x → l[j]? = some y → i < j → x < y
def posU (l : List Int) (id : Int) : Nat := (l.takeWhile (fun x => decide (x < id))).length
theorem posU_spot {l : List Int} {id : Int} {n : Nat} (hn : n ≤ l.length) (h1 : ∀ k, k < n → ∀ x, l[k]? = some x → x < id) (h2 : ∀ x, l[n]? = some x → ¬ x < id) : posU l id = n := by
  unfold posU
  induction l generalizing n with
  | nil => simp at hn; subst hn; rfl
  | cons a l ih =>
    cases n with
    | zero =>
      have := h2 a rfl
      rw [List.takeWhile_cons, if_neg (by simpa using this)]; rfl
    | succ n =>
      have := h1 0 (by omega) a rfl
      rw [List.takeWhile_cons, if_pos (by simpa using this), List.length_cons, ih (by simpa using hn) (fun k hk x hx => h1 (k + 1) (by omega) x (by simpa using hx)) (fun x hx => h2 x (by simpa using hx))]
theorem hitU {l : List Int} {id : Int} {n : Nat} (hs : RisU l) (h1 : ∀ k, k < n → ∀ x, l[k]? = some x → x < id) {x : Int} (hx : l[n]? = some x) (h2 : ¬ x < id) : l.any (· == id) = (x == id) := by
  cases hc : (x == id) with
  | true => exact List.any_eq_true.2 ⟨x, sidx hx, hc⟩
  | false =>
    rw [List.any_eq_false]
    intro y hy he
    obtain ⟨k, hk⟩ := List.getElem?_of_mem hy
    have hxi : x ≠ id := by simpa using hc
    have hyi : y = id := by simpa using he
    rcases Nat.lt_trichotomy k n with h | h | h
    · have := h1 k h y hk; omega
    · subst h; rw [hx] at hk; cases hk; exact hxi hyi
    · have := hs n k x y hx hk h; omega
theorem missU {l : List Int} {id : Int} (h1 : ∀ k, k < l.length → ∀ x, l[k]? = some x → x < id) : l.any (· == id) = false := by
  rw [List.any_eq_false]
  intro y hy he
  obtain ⟨k, hk⟩ := List.getElem?_of_mem hy
  have := h1 k (q3w hk) y hk
  have hyi : y = id := by simpa using he
  omega
theorem cmp_less2 (x y : Int) : Pure Tryz.prog 304 [.int .u64 x, .int .u64 y] (.bool (decide (x < y))) := by
  refine q2p (by kernel_rfl) (by simp only [go_sem, *]) (by simp only [go_sem, *]) Tryz.func304 Tryz.results304 rfl (by simp [Tryz.ntmps304]) (by kernel_rfl) ?_
  repeat' (first | (show q0i ..; first | refine q0c ?_ | refine q0e rfl ?_ | refine q1a rfl rfl ?_) | (show q0k ..; first | refine q0f rfl rfl ?_ | refine q0l rfl ?_) | (show goOn ..; refine q0g ?_) | (show q1k ..; (refine q0r (r := ?_) ?_ ?_; rotate_left 1; (focus exact cmp_nan _))) | (show wGo ..; first | refine q4b ?_ | refine q3r ?_) | (show q0d ..; first | refine q0h ?_ | refine q0b ?_ | refine q0t ?_) | refine q0a ?_ | (show retQ ..; refine q0u ?_) | refine q0n ?_)
  all_goals rfl
theorem sl_nan2 (x : Int) : Pure Tryz.prog 305 [.int .u64 x] (.bool false) := by
  refine q2p (by kernel_rfl) (by simp only [go_sem, *]) (by simp only [go_sem, *]) Tryz.func305 Tryz.results305 rfl (by simp [Tryz.ntmps305]) (by kernel_rfl) ?_
  repeat' (first | (show q0i ..; first | refine q0c ?_ | refine q0e rfl ?_) | (show q0k ..; refine q0f rfl rfl ?_) | (show goOn ..; refine q0g ?_) | (show q0d ..; first | refine q0h ?_ | refine q0b ?_ | refine q0t ?_) | refine q0a ?_ | (show retQ ..; refine q0u ?_) | refine q0n ?_)
  all_goals simp
theorem search_u (l : List Int) (id : Int) (hl : l.length ≤ 1000000) (hs : RisU l) : Pure Tryz.prog 293 [.sl (l.map u64), .int .u64 id] (.tup [.int .i64 (posU l id), .bool (l.any (· == id))]) := by
  refine q2p (by kernel_rfl) (by simp only [go_sem, *]) (by simp only [go_sem, *]) Tryz.func293 Tryz.results293 rfl (by simp [Tryz.ntmps293]) (by kernel_rfl) ?_
  repeat' (first | (show q0i ..; first | refine q0c ?_ | refine q0e rfl ?_) | (show q0k ..; refine q0f rfl rfl ?_) | (show goOn ..; refine q0g ?_) | (show q0d ..; first | refine q0h ?_ | refine q0b ?_ | refine q0m ?_) | refine q0a ?_)
  refine q2l (S := Nat × Nat) (fun s => s.2 - s.1) (fun s => s.1 ≤ s.2 ∧ s.2 ≤ l.length ∧ (∀ k, k < s.1 → ∀ x, l[k]? = some x → x < id) ∧ (∀ k, s.2 ≤ k → ∀ x, l[k]? = some x → ¬ x < id)) (fun s => [(0, .sl (l.map u64)), (1, .int .u64 id), (6, .int .i64 l.length), (7, .int .i64 s.1), (8, .int .i64 s.2)]) (fun _ => []) (fun _ => 0) (0, l.length) ⟨Nat.zero_le _, Nat.le_refl _, fun k hk => absurd hk (Nat.not_lt_zero k), fun k hk x hx => absurd (q3w hx) (by simp only at hk; omega)⟩ (by (refine q1l ?_ ?_ <;> repeat' (first | exact q0v | exact q0y | refine q0p (by (try simp only [go_sem, *]); try rfl) (by simp only [go_sem, *]) ?_ | refine q0z (by (try simp only [go_sem, *]); try rfl) (by omega) (by simp only [go_sem, *]) ?_ | refine q0x (by (try simp only [go_sem, *]); try rfl) (by omega) (by simp only [go_sem, *]) ?_))) ?_
  rintro ⟨i, j⟩ ⟨hij, hj, h1, h2⟩
  simp only at hij hj h1 h2
  rcases Nat.lt_or_ge i j with hlt | hge
  · obtain ⟨x, hx⟩ := q2b (by omega : (i + j) / 2 < l.length)
    have h0 := q2h hlt
    have e1 : IntKind.i64.wrap ((i : Int) + (j : Int)) = ((i + j : Nat) : Int) := by rw [IntKind.wrap_i64]; omega
    have e2 : IntKind.u64.wrap ((i + j : Nat) : Int) = ((i + j : Nat) : Int) := by rw [IntKind.wrap_u64]; omega
    have e3 : IntKind.i64.wrap (((i + j) / 2 : Nat) : Int) = (((i + j) / 2 : Nat) : Int) := by rw [IntKind.wrap_i64]; omega
    have e4 := q2a ((i + j) / 2) (by omega)
    repeat' (first | (show q0i ..; first | refine q0c ?_ | refine q0e rfl ?_) | (show q0k ..; first | refine q0f rfl rfl ?_ | refine q0l rfl ?_) | (show goOn ..; refine q0g ?_) | (show q1k ..; (refine q0r (r := ?_) ?_ ?_; rotate_left 1; (focus exact cmp_less2 _ _))) | (show q0d ..; first | refine q0h ?_ | refine q0b ?_ | refine q0s ?_ | refine q0m ?_ | refine q0j ?_) | (show q0o ..; first | refine cd_t ?_ | refine cd_b (fun _ => ?_) (fun _ => ?_)) | refine q0a ?_ | refine q0q ?_)
    all_goals rename_i hc
    · refine again ((i + j) / 2 + 1, j) ⟨by simp only; omega, hj, fun k hk y hy => ?_, h2⟩ (by simp only; omega) (by (refine q1l ?_ ?_ <;> repeat' (first | exact q0v | exact q0y | refine q0p (by (try simp only [go_sem, *]); try rfl) (by simp only [go_sem, *]) ?_ | refine q0z (by (try simp only [go_sem, *]); try rfl) (by omega) (by simp only [go_sem, *]) ?_ | refine q0x (by (try simp only [go_sem, *]); try rfl) (by omega) (by simp only [go_sem, *]) ?_)))
      simp only at hk
      have hc' := of_decide_eq_true hc
      rcases Nat.lt_or_ge k ((i + j) / 2) with h | h
      · have := hs k _ y x hy hx h; omega
      · obtain rfl : k = (i + j) / 2 := by omega
        rw [hx] at hy; cases hy; exact hc'
    · refine again (i, (i + j) / 2) ⟨by simp only; omega, by simp only; omega, h1, fun k hk y hy => ?_⟩ (by simp only; omega) (by (refine q1l ?_ ?_ <;> repeat' (first | exact q0v | exact q0y | refine q0p (by (try simp only [go_sem, *]); try rfl) (by simp only [go_sem, *]) ?_ | refine q0z (by (try simp only [go_sem, *]); try rfl) (by omega) (by simp only [go_sem, *]) ?_ | refine q0x (by (try simp only [go_sem, *]); try rfl) (by omega) (by simp only [go_sem, *]) ?_)))
      simp only at hk
      have hc' := of_decide_eq_false hc
      rcases Nat.lt_or_ge ((i + j) / 2) k with h | h
      · have := hs _ k x y hx hy h; omega
      · obtain rfl : k = (i + j) / 2 := by omega
        rw [hx] at hy; cases hy; exact hc'
  · obtain rfl : i = j := by omega
    have h0 := q1q hge
    have hp := posU_spot hj h1 (h2 i (Nat.le_refl _))
    rcases Nat.lt_or_ge i l.length with hlt | hge2
    · obtain ⟨x, hx⟩ := q2b hlt
      have h3 := q2h hlt
      have hh := hitU hs h1 hx (h2 i (Nat.le_refl _) x hx)
      rw [hp, hh]
      repeat' (first | (show q0i ..; first | refine q0c ?_ | refine q0e rfl ?_ | refine q1a rfl rfl ?_) | (show q0k ..; first | refine q0f rfl rfl ?_ | refine q0l rfl ?_) | (show goOn ..; refine q0g ?_) | (show q1k ..; (refine q0r (r := ?_) ?_ ?_; rotate_left 1; (focus exact sl_nan2 _))) | (show wGo ..; first | refine q3h ?_ | refine q4b ?_ | refine q3r ?_ | refine q4y ?_ | refine gw_u ?_ | refine gw_fb (fun _ => ?_) (fun _ => ?_)) | (show q0d ..; first | refine q0h ?_ | refine q0b ?_ | refine q0t ?_ | refine q1s ?_ | refine q0j ?_) | (show q0o ..; refine cd_f ?_) | refine q0a ?_ | refine q1r ?_ | refine q1t ?_ | (show retQ ..; refine q0u ?_) | refine q0n ?_)
      all_goals simp_all
    · have h3 := q1q hge2
      obtain rfl : i = l.length := by omega
      have hh := missU (id := id) h1
      rw [hp, hh]
      repeat' (first | (show q0i ..; first | refine q0c ?_ | refine q0e rfl ?_ | refine q1a rfl rfl ?_) | (show q0k ..; refine q0f rfl rfl ?_) | (show goOn ..; refine q0g ?_) | (show wGo ..; first | refine q3r ?_ | refine gw_u ?_) | (show q0d ..; first | refine q0h ?_ | refine q0b ?_ | refine q0t ?_ | refine q1s ?_ | refine q0j ?_) | (show q0o ..; refine cd_f ?_) | refine q0a ?_ | refine q1r ?_ | refine q1t ?_ | (show retQ ..; refine q0u ?_) | refine q0n ?_)
      all_goals simp_all
end Go.Proofs.YtoibbedpaaeclaaGreat
end
