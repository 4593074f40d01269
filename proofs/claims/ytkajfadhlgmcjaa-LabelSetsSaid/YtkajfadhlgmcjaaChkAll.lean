import Derived.Test.YtkajfadhlgmcjaaLabAll
import Derived.Test.YtkajfadhlgmcjaaProg
import Derived.Below
import Derived.Deep.Draws
import Derived.Deep.AppendLies
import Derived.Maps.AppendAt
import Derived.OwnWalk
import Derived.Laws.BytesArg
import Derived.Laws.MakeOwn
import Derived.Laws.OwnMore
import Derived.Deep.OwnRows
import Derived.Tactics
import Derived.Lib.ConvBytes
import Derived.Laws.Slices
import Derived.WalkKit
import Derived.KernelRfl
import Derived.RowKit3
import Derived.Deep.LoopGhost
import Derived.Deep.QuietTactic
import Derived.BigQuiet
import Derived.WideLaws
import Derived.Deep.DeepCutAuto
import Derived.Deep.CutBlock
import Derived.Deep.RegionHeld3
import Derived.Laws.Rows
import Derived.Lib.AppendStr
import Derived.ArgAppend
import Derived.Laws.IdiomCopy
import Derived.OrdersHeld
import Derived.Laws.BitsLemmas
import Derived.RowKit
import Derived.Test.YtkajfadhlgmcjaaSW0
section
-- PRINTED by print.py (a twelfth state) out of the translation. Not trusted: Lean checks it.
namespace Go.Proofs.Ytkajfadhlgmcjaa.PChk
open Go.RowKit Go.Proofs.YtkajfadhlgmcjaaW.PrintWords Go.Proofs.YtkajfadhlgmcjaaW.PrintLast Go.Proofs.YtkajfadhlgmcjaaW.PrintMore
attribute [local go_sem] max2_int min2_int max_two min_two max_three min_three max_four min_four   -- for this text's walks alone
set_option linter.unusedVariables false
set_option linter.unusedSimpArgs false



def errW : Option Int → Value
  | none => .nilIface
  | some c => .iface 0 (.int .i64 c)
theorem errW_none : errW none = .nilIface := rfl
theorem errW_some (c : Int) : errW (some c) = .iface 0 (.int .i64 c) := rfl

theorem info30 : (Try.prog.info? 30).map (fun i => (i.zero, i.size, i.bytes)) = some (some (.int .u64 0), 1, 8) := by kernel_rfl
-- the values' own types
/-! #### struct type 46 -/
structure S46 where
  f0 : Int
  f1 : Int
def z46 : S46 := ⟨(0 : Int), (0 : Int)⟩
def k46 : Kd S46 := Kd.iso (Kd.pair (Kd.int .u64) (Kd.int .i64)) (fun x : S46 => (x.f0, x.f1))
theorem k46_open {w : World} {x : S46} {cs : List Value} (h : k46.K w x cs) : cs = [.int .u64 x.f0, .int .i64 x.f1] := by
  obtain ⟨_, _, rfl, rfl, rfl⟩ := h
  exact rfl
theorem k46_openM {w : World} {base : Nat} {ok : Nat → Prop} {x : S46} {cs : List Value} (h : k46.M w base ok x cs) : cs = [.int .u64 x.f0, .int .i64 x.f1] := by
  obtain ⟨_, _, rfl, rfl, rfl⟩ := h
  exact rfl
theorem k46_mk (w : World) (x : S46)  : k46.K w x [.int .u64 x.f0, .int .i64 x.f1] := ⟨[.int .u64 x.f0], [.int .i64 x.f1], rfl, rfl, rfl⟩
theorem k46_mkM (w : World) (base : Nat) (ok : Nat → Prop) (x : S46)  : k46.M w base ok x [.int .u64 x.f0, .int .i64 x.f1] := ⟨[.int .u64 x.f0], [.int .i64 x.f1], rfl, rfl, rfl⟩
def rd_T46 (xs : List S46) (i : Int) : S46 := xs.getD i.toNat z46
theorem at_T46 {w : World} {A : Option Addr} {n : Nat} {xs : List S46} (h : Kd.C k46 w A n xs) (i : Int) (h0 : 0 ≤ i) (h1 : i < n) : ∃ ad , A = some ad ∧ w.cell? (ad.add (i.toNat * 2)) = some (.int .u64 (rd_T46 xs i).f0) ∧ w.cell? ⟨(ad.add (i.toNat * 2)).block, (ad.add (i.toNat * 2)).off + 1, none⟩ = some (.int .i64 (rd_T46 xs i).f1) := by
  obtain ⟨ad, c, e, _, hK, hc0⟩ := Kd.C_get h z46 i h0 h1
  have hc : ∀ j u, c[j]? = some u → w.cell? (ad.add (i.toNat * 2 + j)) = some u := hc0
  obtain rfl := k46_open hK
  exact ⟨ad, e, hc 0 _ rfl, by rw [← add_field _ _ 1 (by omega)]; exact hc 1 _ rfl⟩

end Go.Proofs.Ytkajfadhlgmcjaa.PChk
end

section
-- PRINTED by print.py (a twelfth state) out of the translation. Not trusted: Lean checks it.
namespace Go.Proofs.Ytkajfadhlgmcjaa.PChk
open Go.RowKit Go.Proofs.YtkajfadhlgmcjaaW.PrintWords Go.Proofs.YtkajfadhlgmcjaaW.PrintLast Go.Proofs.YtkajfadhlgmcjaaW.PrintMore
attribute [local go_sem] max2_int min2_int max_two min_two max_three min_three max_four min_four   -- for this text's walks alone
set_option linter.unusedVariables false
set_option linter.unusedSimpArgs false

/-! ### label_Owned: function 25 -/
def label_Owned.l0 : Nat → List Int → List (S46) → Int → Int → Option (List Int)
  | 0, _, _, _, _ => none
  | k + 1, x3, x6, x7, x8 => if x8 < x7 then (if 0 ≤ x8 then (if x8 < (x6.length : Int) then (if ((rd_T46 x6 x8).f1) = 0 then (if x3.length < 17592186044416 then (label_Owned.l0 k (x3 ++ [(rd_T46 x6 x8).f0]) x6 x7 (wrap64 (x8 + 1))) else (none)) else (label_Owned.l0 k x3 x6 x7 (wrap64 (x8 + 1)))) else (none)) else (none)) else (some x3)
def label_Owned.f (k : Nat) (l0 : List (S46)) : Option (List Int) := label_Owned.l0 k ([] : List Int) l0 (l0.length : Int) 0
theorem label_Owned.mono_l : ∀ k, (∀ y0 y1 y2 y3, LeO (label_Owned.l0 k y0 y1 y2 y3) (label_Owned.l0 (k + 1) y0 y1 y2 y3))
  | 0 => fun _ _ _ _ r h => by simp [label_Owned.l0] at h
  | k + 1 => by
    have ih0 := label_Owned.mono_l k
    · intro y0 y1 y2 y3
      unfold label_Owned.l0
      repeat' first
      | (with_reducible exact ih0 _ _ _ _)
      | (with_reducible exact LeO.refl _)
      | (with_reducible exact LeO.none _)
      | (with_reducible refine LeO.ite ?_ ?_)
      | (with_reducible refine LeO.bind ?_ (fun _ => ?_))
      | exact ih0 _ _ _ _
      | exact LeO.none _
      | refine LeO.ite ?_ ?_
      | refine LeO.bind ?_ (fun _ => ?_)
theorem label_Owned.mono : ∀ a0 k, LeO (label_Owned.f k a0) (label_Owned.f (k + 1) a0) := by
  intro a0 k
  have ih0 := label_Owned.mono_l k
  unfold label_Owned.f
  repeat' first
      | (with_reducible exact ih0 _ _ _ _)
      | (with_reducible exact LeO.refl _)
      | (with_reducible exact LeO.none _)
      | (with_reducible refine LeO.ite ?_ ?_)
      | (with_reducible refine LeO.bind ?_ (fun _ => ?_))
      | exact ih0 _ _ _ _
      | exact LeO.none _
      | refine LeO.ite ?_ ?_
      | refine LeO.bind ?_ (fun _ => ?_)
set_option maxHeartbeats 8000000 in
set_option maxRecDepth 100000 in
theorem label_Owned.calls (k : Nat) (A0 : Option Addr) (c0 : Nat) (l0 : List (S46)) (r : List Int) (w : World) (hr0 : Kd.C k46 w A0 l0.length l0) (hc0 : l0.length ≤ c0) (h : label_Owned.f k l0 = some r) :
    Calls Try.prog 25 #[.slice A0 l0.length c0] w fun e w' => ∃ v0_ : Value, e = .returned (v0_) ∧ Kd.R (Kd.int .u64) 30 w' w.heap.size (fun _ => True) v0_ r ∧ Below w.heap.size w w' := by
  have hu46 := Try.underlying46
  have HR0 := Aside0.mk hr0
  have HC0 := Aside0.mk hc0
  clear hr0 hc0
  have HB := Aside0.mk (Below.refl w.heap.size w)
  have H : (label_Owned.l0 k ([] : List Int) l0 (l0.length : Int) 0) = some r := h
  clear h
  have H' := Aside0.mk H
  clear H
  go_enter Try.func25, Try.ntmps25
  go_wp2
  go_loopg [3, 8] k (fun kq v3 v8 w' => ∃ (x3_1 : List Int) (x8_1 : Int), v8 = .int .i64 x8_1 ∧ Aside0 (label_Owned.l0 kq x3_1 l0 (l0.length : Int) x8_1 = some r) ∧ Aside0 (kq ≤ k) ∧ Aside0 (Kd.R (Kd.int .u64) 30 w' w.heap.size (fun _ => True) v3 x3_1) ∧ Aside0 (Below w.heap.size w w'))
  case atStart => exact ⟨(([] : List Int)), (0), (by first | rfl | (simp; done) | (simp [*]; done)), H', ⟨Nat.le_refl _⟩, ⟨by first | exact Kd.R_nil _ _ _ _ _ | exact Kd.N_nil _ _ _ _ _ | exact Kd.V_nil _ _ _ _ _ | exact Kd.Q_nil _ _ _ _ _ | exact Kd.S_nil _ _ _ _ _⟩, ⟨by repeat (first | (with_reducible first | exact HB.out | apply below_alloc | apply pw_below_drewN | apply below_drew1) | exact HB.out)⟩⟩
  case round =>
    clear H'
    obtain ⟨x3_1, x8_1, rfl, HA, HK1, HO_3, HB⟩ := hrel
    cases gk with
    | zero => exact absurd HA.out (by simp [label_Owned.l0])
    | succ k1 =>
      have H := HA.out
      clear HA
      simp only [label_Owned.l0] at H
      by_cases c2 : x8_1 < (l0.length : Int)
      · rw [if_pos c2] at H
        have c2b0 : decide (x8_1 < (l0.length : Int)) = true := decide_eq_true c2
        clear c2
        by_cases c3 : 0 ≤ x8_1
        · rw [if_pos c3] at H
          have c3b0 : decide (0 ≤ x8_1) = true := decide_eq_true c3
          clear c3
          by_cases c4 : x8_1 < (l0.length : Int)
          · rw [if_pos c4] at H
            have c4b0 : decide (x8_1 < (l0.length : Int)) = true := decide_eq_true c4
            clear c4
            by_cases c5 : ((rd_T46 l0 x8_1).f1) = 0
            · rw [if_pos c5] at H
              have c5b0 : (((rd_T46 l0 x8_1).f1) == 0) = true := beq_iff_eq.mpr c5
              have c5b1 : (((rd_T46 l0 x8_1).f1) != 0) = false := bne_eq_false_iff_eq.mpr c5
              clear c5
              by_cases c6 : x3_1.length < 17592186044416
              · rw [if_pos c6] at H
                have LMc6 := Aside0.mk c6
                clear c6
                obtain ⟨y103, hy103⟩ : ∃ y_ : List Int, y_ = (x3_1 ++ [(rd_T46 l0 x8_1).f0]) := ⟨_, rfl⟩
                replace H : (label_Owned.l0 k1 y103 l0 (l0.length : Int) (wrap64 (x8_1 + 1))) = some r := by first | (rw [hy103]; with_reducible exact H) | (have H2_ := (Option.bind_some _ _).symm.trans H; rw [hy103]; with_reducible exact H2_) | (have H2_ := (Option.bind_some _ _).symm.trans H; with_reducible exact H2_) | with_reducible exact H | (rw [hy103]; exact H) | exact H
                have Ny103 := Aside0.mk hy103
                clear hy103
                have H' := Aside0.mk H
                clear H
                have p101 : 0 ≤ (x8_1 : Int) := of_decide_eq_true (by first | (with_reducible assumption) | assumption)
                have q101 : x8_1 < (l0.length : Int) := of_decide_eq_true (by first | (with_reducible assumption) | assumption)
                obtain ⟨ad101, e101, hx101_0, hx101_1⟩ := at_T46 HR0.out x8_1 p101 q101
                cases e101
                replace hx101_0 := (HB.out.cell (World.block_lt_of_cell? w _ hx101_0)).trans hx101_0
                replace hx101_1 := (HB.out.cell (World.block_lt_of_cell? w _ hx101_1)).trans hx101_1
                replace p101 := eq_true p101
                replace q101 := eq_true q101
                go_wp2_with (first | ((with_reducible refine gate_dst (N := 5) rfl ?_); refine box_event ?hg (N := 5) ?hd (cs := #[.int .u64 0, .int .i64 0]) (t := 46) ?hr ?_; (case hd => rfl); (case hg => rfl); (case hr => first | (go_simp; done) | (go_simp; rfl)); intro gb102 hg w7 hbox hb; have n0_ := Aside0.mk (Kd.R_below (by (with_reducible repeat (first | apply Kd.R_alloc | apply Kd.R_drewN | apply Kd.R_drew)); exact HO_3.out) hb); have n1_ := Aside0.mk (below_step (by repeat (first | (with_reducible first | exact HB.out | apply below_alloc | apply pw_below_drewN | apply below_drew1) | exact HB.out)) hb); have n2_ := Aside0.mk (hbox); have n3_ := Aside0.mk ((by rw [hg]; exact (below_size (by repeat (first | (with_reducible first | exact HB.out | apply below_alloc | apply pw_below_drewN | apply below_drew1) | exact HB.out))) : w.heap.size ≤ gb102)); have n4_ := Aside0.mk ((by rw [hg]; exact (below_size (by repeat (first | (with_reducible first | exact HB.out | apply below_alloc | apply pw_below_drewN | apply below_drew1) | exact HB.out))) : w.heap.size ≤ gb102)); clear HO_3; clear HB; have HO_3 := n0_; have HB := n1_; have BK102 := n2_; have GW102 := n3_; have GE102 := n4_; clear n0_ n1_ n2_ n3_ n4_; clear hb hbox hg; have hcz8_0 : w7.cell? ⟨gb102, 0, none⟩ = some (.int .u64 0) := (blk_cell BK102.out 0).trans rfl; have hcz8_1 : w7.cell? ⟨gb102, 1, none⟩ = some (.int .i64 0) := (blk_cell BK102.out 1).trans rfl; have hfz8_0 := blk_frozen BK102.out 0; have hfz8_1 := blk_frozen BK102.out 1) | ((with_reducible refine gate_builtin (b := .append) (xs := #[.tmp 15, .tmp 18]) rfl ?_); at_builtin; refine Kd.R_append (Kd.int .u64) (w0 := w) w.heap.size rfl (.tmp 15) (.tmp 18) 34 30 (.int .u64 0) 8 rfl Try.underlying34 info30 rfl (by decide) (by omega) u3 x3_1 ((rd_T46 l0 x8_1).f0) [.int .u64 ((rd_T46 l0 x8_1).f0)] (fun _ => True) (fun _ => False) rfl (by first | (go_simp; done) | (go_simp; rfl)) ?aP (fun _ hk => hk.elim) ?aF ?aO ?aB ?aS ?aL ?_; (case aP => exact rfl); (case aB => exact (by repeat (first | (with_reducible first | exact HB.out | apply below_alloc | apply pw_below_drewN | apply below_drew1 | refine below_set ?_ GE102.out) | exact HB.out))); (case aF => exact (fun _ _ => trivial)); (case aO => exact (by (with_reducible repeat (first | apply Kd.R_alloc | apply Kd.R_drewN | apply Kd.R_drew)); exact Kd.R_mono (Kd.R_far (p := ⟨gb102, 1, none⟩) (Kd.R_far (p := ⟨gb102, 0, none⟩) (Kd.R_types HO_3.out BK102.out (by decide)) (fun _ hk => hk.2) (.int .u64 ((rd_T46 l0 x8_1).f0))) (fun _ hk => hk.2) (.int .i64 ((rd_T46 l0 x8_1).f1))) (fun _ hk => trivial))); (case aS => exact (below_size (by repeat (first | (with_reducible first | exact HB.out | apply below_alloc | apply pw_below_drewN | apply below_drew1 | refine below_set ?_ GE102.out) | exact HB.out)))); (case aL => have := LMc6.out; omega); intro v104 w9 ho hb hg hat; rw [← Ny103.out] at ho; have n0_ := Aside0.mk (blk_grown (g := gb102) (o := .cells #[.int .u64 ((rd_T46 l0 x8_1).f0), .int .i64 ((rd_T46 l0 x8_1).f1)] 46 (0, 0)) (by (with_reducible repeat (first | refine blk_drewN ?_ _ | refine blk_drew ?_ | refine blk_alloc ?_ _)); refine blk_put (cs := #[.int .u64 ((rd_T46 l0 x8_1).f0), .int .i64 0]) ?_ 1 _ rfl; (with_reducible repeat (first | refine blk_drewN ?_ _ | refine blk_drew ?_ | refine blk_alloc ?_ _)); refine blk_put (cs := #[.int .u64 0, .int .i64 0]) ?_ 0 _ rfl; (with_reducible repeat (first | refine blk_drewN ?_ _ | refine blk_drew ?_ | refine blk_alloc ?_ _)); exact BK102.out) hg (Kd.R_ne HO_3.out BK102.out (by decide))); have n1_ := Aside0.mk (hb); have n2_ := Aside0.mk (ho); clear BK102; clear HB; clear HO_3; have BK102 := n0_; have HB := n1_; have HO105 := n2_; clear n0_ n1_ n2_; clear ho hb hg hat))
                go_roundg k1
                case measure => have := HK1.out; omega
                case rel => exact ⟨(y103), (wrap64 (x8_1 + 1)), (by first | rfl | (simp; done) | (simp [*]; done)), H', ⟨by have := HK1.out; omega⟩, ⟨by (with_reducible repeat (first | apply Kd.R_alloc | apply Kd.R_drewN | apply Kd.R_drew)); exact HO105.out⟩, ⟨by repeat (first | (with_reducible first | exact HB.out | apply below_alloc | apply pw_below_drewN | apply below_drew1 | refine below_set ?_ GE102.out) | exact HB.out)⟩⟩
              · rw [if_neg c6] at H
                exact absurd H (by simp)
            · rw [if_neg c5] at H
              have c5b0 : (((rd_T46 l0 x8_1).f1) == 0) = false := beq_eq_false_iff_ne.mpr c5
              have c5b1 : (((rd_T46 l0 x8_1).f1) != 0) = true := bne_iff_ne.mpr c5
              have H' := Aside0.mk H
              clear H
              have p101 : 0 ≤ (x8_1 : Int) := of_decide_eq_true (by first | (with_reducible assumption) | assumption)
              have q101 : x8_1 < (l0.length : Int) := of_decide_eq_true (by first | (with_reducible assumption) | assumption)
              obtain ⟨ad101, e101, hx101_0, hx101_1⟩ := at_T46 HR0.out x8_1 p101 q101
              cases e101
              replace hx101_0 := (HB.out.cell (World.block_lt_of_cell? w _ hx101_0)).trans hx101_0
              replace hx101_1 := (HB.out.cell (World.block_lt_of_cell? w _ hx101_1)).trans hx101_1
              replace p101 := eq_true p101
              replace q101 := eq_true q101
              go_wp2_with (first | ((with_reducible refine gate_dst (N := 5) rfl ?_); refine box_event ?hg (N := 5) ?hd (cs := #[.int .u64 0, .int .i64 0]) (t := 46) ?hr ?_; (case hd => rfl); (case hg => rfl); (case hr => first | (go_simp; done) | (go_simp; rfl)); intro gb102 hg w10 hbox hb; have n0_ := Aside0.mk (Kd.R_below (by (with_reducible repeat (first | apply Kd.R_alloc | apply Kd.R_drewN | apply Kd.R_drew)); exact HO_3.out) hb); have n1_ := Aside0.mk (below_step (by repeat (first | (with_reducible first | exact HB.out | apply below_alloc | apply pw_below_drewN | apply below_drew1) | exact HB.out)) hb); have n2_ := Aside0.mk (hbox); have n3_ := Aside0.mk ((by rw [hg]; exact (below_size (by repeat (first | (with_reducible first | exact HB.out | apply below_alloc | apply pw_below_drewN | apply below_drew1) | exact HB.out))) : w.heap.size ≤ gb102)); have n4_ := Aside0.mk ((by rw [hg]; exact (below_size (by repeat (first | (with_reducible first | exact HB.out | apply below_alloc | apply pw_below_drewN | apply below_drew1) | exact HB.out))) : w.heap.size ≤ gb102)); clear HO_3; clear HB; have HO_3 := n0_; have HB := n1_; have BK102 := n2_; have GW102 := n3_; have GE102 := n4_; clear n0_ n1_ n2_ n3_ n4_; clear hb hbox hg; have hcz11_0 : w10.cell? ⟨gb102, 0, none⟩ = some (.int .u64 0) := (blk_cell BK102.out 0).trans rfl; have hcz11_1 : w10.cell? ⟨gb102, 1, none⟩ = some (.int .i64 0) := (blk_cell BK102.out 1).trans rfl; have hfz11_0 := blk_frozen BK102.out 0; have hfz11_1 := blk_frozen BK102.out 1))
              go_roundg k1
              case measure => have := HK1.out; omega
              case rel => exact ⟨(x3_1), (wrap64 (x8_1 + 1)), (by first | rfl | (simp; done) | (simp [*]; done)), H', ⟨by have := HK1.out; omega⟩, ⟨by (with_reducible repeat (first | apply Kd.R_alloc | apply Kd.R_drewN | apply Kd.R_drew)); exact Kd.R_mono (Kd.R_far (p := ⟨gb102, 1, none⟩) (Kd.R_far (p := ⟨gb102, 0, none⟩) (Kd.R_types HO_3.out BK102.out (by decide)) (fun _ hk => hk.2) (.int .u64 ((rd_T46 l0 x8_1).f0))) (fun _ hk => hk.2) (.int .i64 ((rd_T46 l0 x8_1).f1))) (fun _ hk => trivial)⟩, ⟨by repeat (first | (with_reducible first | exact HB.out | apply below_alloc | apply pw_below_drewN | apply below_drew1 | refine below_set ?_ GE102.out) | exact HB.out)⟩⟩
          · rw [if_neg c4] at H
            exact absurd H (by simp)
        · rw [if_neg c3] at H
          exact absurd H (by simp)
      · rw [if_neg c2] at H
        have c2b0 : decide (x8_1 < (l0.length : Int)) = false := decide_eq_false c2
        clear c2
        obtain rfl := Option.some.inj H
        go_wp2
        go_ret
        exact ⟨_, by first | rfl | (simp [errW_none, errW_some] <;> rfl) | (simp [*, errW_none, errW_some] <;> rfl), by (with_reducible repeat (first | apply Kd.R_alloc | apply Kd.R_drewN | apply Kd.R_drew)); exact HO_3.out, by repeat (first | (with_reducible first | exact HB.out | apply below_alloc | apply pw_below_drewN | apply below_drew1) | exact HB.out)⟩

/-! ### check_plain: function 95 -/
def check_plain.l0 : Nat → List (S46) → Int → Int → Option (Bool)
  | 0, _, _, _ => none
  | k + 1, x5, x6, x7 => if x7 < x6 then (if 0 ≤ x7 then (if x7 < (x5.length : Int) then (if ((rd_T46 x5 x7).f1) = 5 then (some false) else (check_plain.l0 k x5 x6 (wrap64 (x7 + 1)))) else (none)) else (none)) else (some true)
def check_plain.f (k : Nat) (l0 : List (S46)) : Option (Bool) := check_plain.l0 k l0 (l0.length : Int) 0
theorem check_plain.mono_l : ∀ k, (∀ y0 y1 y2, LeO (check_plain.l0 k y0 y1 y2) (check_plain.l0 (k + 1) y0 y1 y2))
  | 0 => fun _ _ _ r h => by simp [check_plain.l0] at h
  | k + 1 => by
    have ih0 := check_plain.mono_l k
    · intro y0 y1 y2
      unfold check_plain.l0
      repeat' first
      | (with_reducible exact ih0 _ _ _)
      | (with_reducible exact LeO.refl _)
      | (with_reducible exact LeO.none _)
      | (with_reducible refine LeO.ite ?_ ?_)
      | (with_reducible refine LeO.bind ?_ (fun _ => ?_))
      | exact ih0 _ _ _
      | exact LeO.none _
      | refine LeO.ite ?_ ?_
      | refine LeO.bind ?_ (fun _ => ?_)
theorem check_plain.mono : ∀ a0 k, LeO (check_plain.f k a0) (check_plain.f (k + 1) a0) := by
  intro a0 k
  have ih0 := check_plain.mono_l k
  unfold check_plain.f
  repeat' first
      | (with_reducible exact ih0 _ _ _)
      | (with_reducible exact LeO.refl _)
      | (with_reducible exact LeO.none _)
      | (with_reducible refine LeO.ite ?_ ?_)
      | (with_reducible refine LeO.bind ?_ (fun _ => ?_))
      | exact ih0 _ _ _
      | exact LeO.none _
      | refine LeO.ite ?_ ?_
      | refine LeO.bind ?_ (fun _ => ?_)
set_option maxHeartbeats 8000000 in
set_option maxRecDepth 100000 in
theorem check_plain.calls (k : Nat) (A0 : Option Addr) (c0 : Nat) (l0 : List (S46)) (r : Bool) (w : World) (hr0 : Kd.C k46 w A0 l0.length l0) (hc0 : l0.length ≤ c0) (h : check_plain.f k l0 = some r) :
    Calls Try.prog 95 #[.slice A0 l0.length c0] w fun e w' => e = .returned (.bool r) ∧ Below w.heap.size w w' := by
  have hu46 := Try.underlying46
  have HR0 := Aside0.mk hr0
  have HC0 := Aside0.mk hc0
  clear hr0 hc0
  have HB := Aside0.mk (Below.refl w.heap.size w)
  have H : (check_plain.l0 k l0 (l0.length : Int) 0) = some r := h
  clear h
  have H' := Aside0.mk H
  clear H
  go_enter Try.func95, Try.ntmps95
  go_wp2
  go_loopg [7] k (fun kq v7 w' => ∃ (x7_1 : Int), v7 = .int .i64 x7_1 ∧ Aside0 (check_plain.l0 kq l0 (l0.length : Int) x7_1 = some r) ∧ Aside0 (kq ≤ k) ∧ Aside0 (Below w.heap.size w w'))
  case atStart => exact ⟨(0), (by first | rfl | (simp; done) | (simp [*]; done)), H', ⟨Nat.le_refl _⟩, ⟨by repeat (first | (with_reducible first | exact HB.out | apply below_alloc | apply pw_below_drewN | apply below_drew1) | exact HB.out)⟩⟩
  case round =>
    clear H'
    obtain ⟨x7_1, rfl, HA, HK1, HB⟩ := hrel
    cases gk with
    | zero => exact absurd HA.out (by simp [check_plain.l0])
    | succ k1 =>
      have H := HA.out
      clear HA
      simp only [check_plain.l0] at H
      by_cases c2 : x7_1 < (l0.length : Int)
      · rw [if_pos c2] at H
        have c2b0 : decide (x7_1 < (l0.length : Int)) = true := decide_eq_true c2
        clear c2
        by_cases c3 : 0 ≤ x7_1
        · rw [if_pos c3] at H
          have c3b0 : decide (0 ≤ x7_1) = true := decide_eq_true c3
          clear c3
          by_cases c4 : x7_1 < (l0.length : Int)
          · rw [if_pos c4] at H
            have c4b0 : decide (x7_1 < (l0.length : Int)) = true := decide_eq_true c4
            clear c4
            by_cases c5 : ((rd_T46 l0 x7_1).f1) = 5
            · rw [if_pos c5] at H
              have c5b0 : (((rd_T46 l0 x7_1).f1) == 5) = true := beq_iff_eq.mpr c5
              have c5b1 : (((rd_T46 l0 x7_1).f1) != 5) = false := bne_eq_false_iff_eq.mpr c5
              clear c5
              obtain rfl := Option.some.inj H
              have p106 : 0 ≤ (x7_1 : Int) := of_decide_eq_true (by first | (with_reducible assumption) | assumption)
              have q106 : x7_1 < (l0.length : Int) := of_decide_eq_true (by first | (with_reducible assumption) | assumption)
              obtain ⟨ad106, e106, hx106_0, hx106_1⟩ := at_T46 HR0.out x7_1 p106 q106
              cases e106
              replace hx106_0 := (HB.out.cell (World.block_lt_of_cell? w _ hx106_0)).trans hx106_0
              replace hx106_1 := (HB.out.cell (World.block_lt_of_cell? w _ hx106_1)).trans hx106_1
              replace p106 := eq_true p106
              replace q106 := eq_true q106
              go_wp2_with (first | ((with_reducible refine gate_dst (N := 4) rfl ?_); refine box_event ?hg (N := 4) ?hd (cs := #[.int .u64 0, .int .i64 0]) (t := 46) ?hr ?_; (case hd => rfl); (case hg => rfl); (case hr => first | (go_simp; done) | (go_simp; rfl)); intro gb107 hg w6 hbox hb; have n0_ := Aside0.mk (below_step (by repeat (first | (with_reducible first | exact HB.out | apply below_alloc | apply pw_below_drewN | apply below_drew1) | exact HB.out)) hb); have n1_ := Aside0.mk (hbox); have n2_ := Aside0.mk ((by rw [hg]; exact (below_size (by repeat (first | (with_reducible first | exact HB.out | apply below_alloc | apply pw_below_drewN | apply below_drew1) | exact HB.out))) : w.heap.size ≤ gb107)); have n3_ := Aside0.mk ((by rw [hg]; exact (below_size (by repeat (first | (with_reducible first | exact HB.out | apply below_alloc | apply pw_below_drewN | apply below_drew1) | exact HB.out))) : w.heap.size ≤ gb107)); clear HB; have HB := n0_; have BK107 := n1_; have GW107 := n2_; have GE107 := n3_; clear n0_ n1_ n2_ n3_; clear hb hbox hg; have hcz7_0 : w6.cell? ⟨gb107, 0, none⟩ = some (.int .u64 0) := (blk_cell BK107.out 0).trans rfl; have hcz7_1 : w6.cell? ⟨gb107, 1, none⟩ = some (.int .i64 0) := (blk_cell BK107.out 1).trans rfl; have hfz7_0 := blk_frozen BK107.out 0; have hfz7_1 := blk_frozen BK107.out 1))
              go_ret
              exact ⟨by first | rfl | (simp [errW_none, errW_some] <;> rfl) | (simp [*, errW_none, errW_some] <;> rfl), by repeat (first | (with_reducible first | exact HB.out | apply below_alloc | apply pw_below_drewN | apply below_drew1 | refine below_set ?_ GE107.out) | exact HB.out)⟩
            · rw [if_neg c5] at H
              have c5b0 : (((rd_T46 l0 x7_1).f1) == 5) = false := beq_eq_false_iff_ne.mpr c5
              have c5b1 : (((rd_T46 l0 x7_1).f1) != 5) = true := bne_iff_ne.mpr c5
              have H' := Aside0.mk H
              clear H
              have p106 : 0 ≤ (x7_1 : Int) := of_decide_eq_true (by first | (with_reducible assumption) | assumption)
              have q106 : x7_1 < (l0.length : Int) := of_decide_eq_true (by first | (with_reducible assumption) | assumption)
              obtain ⟨ad106, e106, hx106_0, hx106_1⟩ := at_T46 HR0.out x7_1 p106 q106
              cases e106
              replace hx106_0 := (HB.out.cell (World.block_lt_of_cell? w _ hx106_0)).trans hx106_0
              replace hx106_1 := (HB.out.cell (World.block_lt_of_cell? w _ hx106_1)).trans hx106_1
              replace p106 := eq_true p106
              replace q106 := eq_true q106
              go_wp2_with (first | ((with_reducible refine gate_dst (N := 4) rfl ?_); refine box_event ?hg (N := 4) ?hd (cs := #[.int .u64 0, .int .i64 0]) (t := 46) ?hr ?_; (case hd => rfl); (case hg => rfl); (case hr => first | (go_simp; done) | (go_simp; rfl)); intro gb107 hg w8 hbox hb; have n0_ := Aside0.mk (below_step (by repeat (first | (with_reducible first | exact HB.out | apply below_alloc | apply pw_below_drewN | apply below_drew1) | exact HB.out)) hb); have n1_ := Aside0.mk (hbox); have n2_ := Aside0.mk ((by rw [hg]; exact (below_size (by repeat (first | (with_reducible first | exact HB.out | apply below_alloc | apply pw_below_drewN | apply below_drew1) | exact HB.out))) : w.heap.size ≤ gb107)); have n3_ := Aside0.mk ((by rw [hg]; exact (below_size (by repeat (first | (with_reducible first | exact HB.out | apply below_alloc | apply pw_below_drewN | apply below_drew1) | exact HB.out))) : w.heap.size ≤ gb107)); clear HB; have HB := n0_; have BK107 := n1_; have GW107 := n2_; have GE107 := n3_; clear n0_ n1_ n2_ n3_; clear hb hbox hg; have hcz9_0 : w8.cell? ⟨gb107, 0, none⟩ = some (.int .u64 0) := (blk_cell BK107.out 0).trans rfl; have hcz9_1 : w8.cell? ⟨gb107, 1, none⟩ = some (.int .i64 0) := (blk_cell BK107.out 1).trans rfl; have hfz9_0 := blk_frozen BK107.out 0; have hfz9_1 := blk_frozen BK107.out 1))
              go_roundg k1
              case measure => have := HK1.out; omega
              case rel => exact ⟨(wrap64 (x7_1 + 1)), (by first | rfl | (simp; done) | (simp [*]; done)), H', ⟨by have := HK1.out; omega⟩, ⟨by repeat (first | (with_reducible first | exact HB.out | apply below_alloc | apply pw_below_drewN | apply below_drew1 | refine below_set ?_ GE107.out) | exact HB.out)⟩⟩
          · rw [if_neg c4] at H
            exact absurd H (by simp)
        · rw [if_neg c3] at H
          exact absurd H (by simp)
      · rw [if_neg c2] at H
        have c2b0 : decide (x7_1 < (l0.length : Int)) = false := decide_eq_false c2
        clear c2
        obtain rfl := Option.some.inj H
        go_wp2
        go_ret
        exact ⟨by first | rfl | (simp [errW_none, errW_some] <;> rfl) | (simp [*, errW_none, errW_some] <;> rfl), by repeat (first | (with_reducible first | exact HB.out | apply below_alloc | apply pw_below_drewN | apply below_drew1) | exact HB.out)⟩

end Go.Proofs.Ytkajfadhlgmcjaa.PChk
end

section
namespace Go.Proofs.Ytkajfadhlgmcjaa
open Go Go.RowKit Go.Shelf Go.Proofs.YtkajfadhlgmcjaaW.PrintWords Go.Proofs.YtkajfadhlgmcjaaW.PrintLast Go.Proofs.YtkajfadhlgmcjaaW.PrintMore
set_option linter.unusedVariables false
set_option linter.unusedSimpArgs false
/-- A function value that answers b, in w and whatever has grown out of it. -/
structure Quest (w : World) (v : Value) (b : Bool) : Prop where
  out : ∃ (fn : Nat) (lb : Array Value), v = .func (.func fn) #[] lb ∧ (∀ args W, (callFunc fn args).run Try.prog W = .ok (.enter fn args) W) ∧ ∀ W, Below w.heap.size w W → Calls Try.prog fn lb W (fun e W' => e = .returned (.bool b) ∧ Below W.heap.size W W')
theorem Quest.below {w w1 : World} {v : Value} {b : Bool} (h : Quest w v b) (hb : Below w.heap.size w w1) : Quest w1 v b := by
  obtain ⟨fn, lb, h1, h2, h3⟩ := h
  exact ⟨fn, lb, h1, h2, fun W hW => h3 W (below_step hb hW)⟩
set_option maxRecDepth 100000 in
set_option maxHeartbeats 1000000 in
theorem all_calls (qs : List (Value × Bool)) (g : Nat) (t : TypeId) (w : World) (hb : w.heap[g]? = some (.cells (qs.map (·.1)).toArray t (0, 0))) (hq : ∀ q ∈ qs, Quest w q.1 q.2) (hn : qs.length ≤ 100) :
    Calls Try.prog 69 #[.slice (some ⟨g, 0, none⟩) qs.length qs.length] w fun e w' => e = .returned (.bool (qs.all (·.2))) ∧ Below w.heap.size w w' := by
  obtain ⟨n, hnn⟩ : ∃ n, n = qs.length := ⟨_, rfl⟩
  have HN := Lib.hid hnn
  have HB := Lib.hid hb
  have HQ := Lib.hid hq
  rw [← hnn] at hn ⊢
  clear hnn hb hq
  go_enter Try.func69, Try.ntmps69
  go_wp2
  go_loopw [7] (fun i W => ∃ k : Nat, k ≤ n ∧ i = .int .i64 k ∧ Hid (qs.all (·.2) = (qs.drop k).all (·.2)) ∧ Below w.heap.size w W) (fun i W => n - (intOf i).toNat)
  case atStart => exact ⟨0, by omega, rfl, Lib.hid (by simp), (by repeat (first | with_reducible (exact Below.refl _ _) | with_reducible (apply below_alloc) | with_reducible (apply below_drew1) | with_reducible (apply pw_below_drewN) | (with_reducible (refine bel_set ?_ ?_ _ _); rotate_left; omega)))⟩
  case round =>
    obtain ⟨k, hk, rfl, hall, hB⟩ := hrel
    by_cases hlt : k < n
    · have hkl : k < qs.length := by have := HN.out; omega
      obtain ⟨q, hqe⟩ : ∃ q, q = qs[k] := ⟨_, rfl⟩
      obtain ⟨v, b⟩ := q
      have hquest := HQ.out (v, b) (by rw [hqe]; exact List.getElem_mem hkl)
      obtain ⟨fn, lb, hv, heg, hf⟩ := hquest
      simp only at hv hf
      subst hv
      have HF := Lib.hid hf
      have cel : w.cell? ⟨g, k, none⟩ = some (.func (.func fn) #[] lb) := by
        have := blk_cell HB.out k
        simp [List.getElem?_map, List.getElem?_eq_getElem hkl, ← hqe] at this
        exact this
      have cl1 := pw_cell_below hB cel
      have hdrop : Hid ((qs.drop k).all (·.2) = (b && (qs.drop (k + 1)).all (·.2))) := Lib.hid (by rw [List.drop_eq_getElem_cons hkl, List.all_cons, ← hqe])
      clear cel hf hqe
      cases b with
      | true =>
        go_wp2_with (refine (HF.out _ hB).mono ?_; rintro e w1 ⟨rfl, hb⟩)
        go_roundw
        case rel => exact ⟨k + 1, by omega, by simp, Lib.hid (by rw [hall.out, hdrop.out, Bool.true_and]), hB.trans (hb.mono hB.size)⟩
        case measure => simp [intOf]; omega
      | false =>
        go_wp2_with (refine (HF.out _ hB).mono ?_; rintro e w1 ⟨rfl, hb⟩)
        go_ret
        exact ⟨by rw [hall.out, hdrop.out, Bool.false_and]; rfl, hB.trans (hb.mono hB.size)⟩
    · obtain rfl : k = n := by omega
      go_wp2
      go_ret
      exact ⟨by rw [hall.out, List.drop_of_length_le (by have := HN.out; omega)]; rfl, hB⟩
/-! The printed functions' labels, and mine. -/
def toS (l : Lab) : List PChk.S46 := l.map (fun p => ⟨p.1, p.2⟩)
theorem toS_len (l : Lab) : (toS l).length = l.length := List.length_map _
theorem C_toS {w : World} {A : Option Addr} {n : Nat} {l : Lab} (h : kPr.C w A n l) : Kd.C PChk.k46 w A n (toS l) := by
  obtain ⟨h1, h2, h3⟩ := h
  refine ⟨by rw [toS_len]; exact h1, h2, fun hn => ?_⟩
  obtain ⟨ad, e, hc⟩ := h3 hn
  refine ⟨ad, e, fun j p hp => ?_⟩
  unfold toS at hp
  rw [List.getElem?_map] at hp
  cases hj : l[j]? with
  | none => rw [hj] at hp; simp at hp
  | some q =>
    rw [hj] at hp
    simp at hp
    obtain ⟨c, hc1, hc2, hc3⟩ := hc j q hj
    subst hp
    exact ⟨c, hc1, hc2, hc3⟩
theorem rd_toS (l : Lab) (i : Nat) (h : i < l.length) : PChk.rd_T46 (toS l) (i : Int) = ⟨l[i].1, l[i].2⟩ := by
  unfold PChk.rd_T46 toS
  simp [h]
theorem w64' {x : Int} (h : 0 ≤ x ∧ x < 9223372036854775808) : wrap64 x = x := by unfold wrap64; omega
def plainB (l : Lab) : Bool := l.all (fun p => p.2 != 5)
def ownedB (l : Lab) : List Int := (l.filter (fun p => p.2 == 0)).map (·.1)
theorem plainB_cons (p : Int × Int) (t : Lab) : plainB (p :: t) = (p.2 != 5 && plainB t) := rfl
theorem ownedB_cons (p : Int × Int) (t : Lab) : ownedB (p :: t) = if p.2 = 0 then p.1 :: ownedB t else ownedB t := by
  unfold ownedB
  by_cases h : p.2 = 0 <;> simp [h]
theorem plain_loop (l : Lab) (hlen : l.length ≤ 1000000) : ∀ (d k i : Nat), i + d = l.length → d < k → PChk.check_plain.l0 k (toS l) (l.length : Int) (i : Int) = some (plainB (l.drop i)) := by
  intro d
  induction d with
  | zero =>
    intro k i hi hk
    obtain ⟨k, rfl⟩ : ∃ m, k = m + 1 := ⟨k - 1, by omega⟩
    simp only [PChk.check_plain.l0, toS_len]
    rw [if_neg (by omega), List.drop_of_length_le (by omega)]
    rfl
  | succ d ih =>
    intro k i hi hk
    obtain ⟨k, rfl⟩ : ∃ m, k = m + 1 := ⟨k - 1, by omega⟩
    have hil : i < l.length := by omega
    have ih' := ih k (i + 1) (by omega) (by omega)
    have hw : wrap64 ((i : Int) + 1) = ((i + 1 : Nat) : Int) := by rw [w64' (by omega)]; omega
    simp only [PChk.check_plain.l0, toS_len]
    rw [if_pos (by omega), if_pos (by omega), if_pos (by omega), rd_toS l i hil, hw, ih', List.drop_eq_getElem_cons hil]
    by_cases h1 : l[i].2 = 5
    · rw [if_pos h1, plainB_cons, h1]; rfl
    · rw [if_neg h1, plainB_cons, bne_iff_ne.2 h1, Bool.true_and]
theorem plain_calls (l : Lab) (A : Option Addr) (c : Nat) (w : World) (hC : kPr.C w A l.length l) (hc : l.length ≤ c) (hlen : l.length ≤ 1000000) :
    Calls Try.prog 95 #[.slice A l.length c] w fun e w' => e = .returned (.bool (plainB l)) ∧ Below w.heap.size w w' := by
  have h := PChk.check_plain.calls (l.length + 1) A c (toS l) (plainB l) w (by rw [toS_len]; exact C_toS hC) (by rw [toS_len]; exact hc) (by
    have := plain_loop l hlen l.length (l.length + 1) 0 (by omega) (by omega)
    rw [List.drop_zero] at this
    unfold PChk.check_plain.f
    rw [toS_len]
    exact this)
  rw [toS_len] at h
  refine h.mono ?_
  rintro e w' ⟨rfl, hb⟩
  exact ⟨rfl, by first | exact hb | exact hb.below⟩
theorem owned_loop (l : Lab) (hlen : l.length ≤ 1000000) : ∀ (d k i : Nat) (out : List Int), i + d = l.length → d < k → out.length ≤ i → PChk.label_Owned.l0 k out (toS l) (l.length : Int) (i : Int) = some (out ++ ownedB (l.drop i)) := by
  intro d
  induction d with
  | zero =>
    intro k i out hi hk ho
    obtain ⟨k, rfl⟩ : ∃ m, k = m + 1 := ⟨k - 1, by omega⟩
    simp only [PChk.label_Owned.l0, toS_len]
    rw [if_neg (by omega), List.drop_of_length_le (by omega)]
    simp [ownedB]
  | succ d ih =>
    intro k i out hi hk ho
    obtain ⟨k, rfl⟩ : ∃ m, k = m + 1 := ⟨k - 1, by omega⟩
    have hil : i < l.length := by omega
    have hw : wrap64 ((i : Int) + 1) = ((i + 1 : Nat) : Int) := by rw [w64' (by omega)]; omega
    simp only [PChk.label_Owned.l0, toS_len]
    rw [if_pos (by omega), if_pos (by omega), if_pos (by omega), rd_toS l i hil, hw, List.drop_eq_getElem_cons hil]
    by_cases h1 : l[i].2 = 0
    · rw [if_pos h1, if_pos (by omega), ih k (i + 1) _ (by omega) (by omega) (by simp; omega)]
      rw [ownedB_cons, if_pos h1, List.append_assoc]; rfl
    · rw [if_neg h1, ih k (i + 1) _ (by omega) (by omega) (by omega), ownedB_cons, if_neg h1]
theorem owned_calls (l : Lab) (A : Option Addr) (c : Nat) (w : World) (hC : kPr.C w A l.length l) (hc : l.length ≤ c) (hlen : l.length ≤ 1000000) :
    Calls Try.prog 25 #[.slice A l.length c] w fun e w' => ∃ v, e = .returned v ∧ Kd.R (Kd.int .u64) 30 w' w.heap.size (fun _ => True) v (ownedB l) ∧ Below w.heap.size w w' := by
  have h := PChk.label_Owned.calls (l.length + 1) A c (toS l) (ownedB l) w (by rw [toS_len]; exact C_toS hC) (by rw [toS_len]; exact hc) (by
    have := owned_loop l hlen l.length (l.length + 1) 0 [] (by omega) (by omega) (by simp)
    rw [List.drop_zero, List.nil_append] at this
    unfold PChk.label_Owned.f
    rw [toS_len]
    exact this)
  rw [toS_len] at h
  exact h
/-! The questions. -/
theorem leq1_calls (la lb : Lab) (Aa Ab : Option Addr) (ca cb : Nat) (g h : Nat) (W : World) (hg : W.heap[g]? = some (.cells #[.slice Aa la.length ca] 23 (0, 0))) (hh : W.heap[h]? = some (.cells #[.slice Ab lb.length cb] 23 (0, 0)))
    (hCa : kPr.C W Aa la.length la) (hCb : kPr.C W Ab lb.length lb) (hca : la.length ≤ ca) (hcb : lb.length ≤ cb) (hlen : la.length + lb.length ≤ 1000000) :
    Calls Try.prog 93 #[.pointer (some ⟨g, 0, none⟩), .pointer (some ⟨h, 0, none⟩)] W fun e w' => e = .returned (.bool (leqB la lb)) ∧ Below W.heap.size W w' := by
  have c1 := blk_cell hg 0
  have c2 := blk_cell hh 0
  simp only [List.getElem?_toArray, List.getElem?_cons_zero] at c1 c2
  have HC := Lib.hid hCa
  have HD := Lib.hid hCb
  clear hg hh hCa hCb
  go_enter Try.func93, Try.ntmps93
  go_wp2_with (refine (leq_calls la lb Aa Ab ca cb _ HC.out HD.out hca hcb hlen).mono ?_; rintro e w1 ⟨rfl, hb⟩)
  go_ret
  exact ⟨rfl, hb⟩
theorem leqq_calls (la lb : Lab) (Aa Ab : Option Addr) (ca cb : Nat) (w : World) (hCa : kPr.C w Aa la.length la) (hCb : kPr.C w Ab lb.length lb) (hca : la.length ≤ ca) (hcb : lb.length ≤ cb) (hlen : la.length + lb.length ≤ 1000000) :
    Calls Try.prog 70 #[.slice Aa la.length ca, .slice Ab lb.length cb] w fun e w' => ∃ fn lb_, e = .returned (.func (.func fn) #[] lb_) ∧ Quest w' (.func (.func fn) #[] lb_) (leqB la lb) ∧ Below w.heap.size w w' := by
  have HC := Lib.hid hCa
  have HD := Lib.hid hCb
  clear hCa hCb
  go_enter Try.func70, Try.ntmps70
  go_wp2
  go_ret
  refine ⟨_, _, rfl, ⟨93, _, rfl, enters_of Try.func93 (by kernel_rfl) rfl, fun W hW => ?_⟩, (by repeat (first | with_reducible (exact Below.refl _ _) | with_reducible (apply below_alloc) | with_reducible (apply below_drew1) | with_reducible (apply pw_below_drewN) | (with_reducible (refine bel_set ?_ ?_ _ _); rotate_left; omega)))⟩
  exact leq1_calls la lb Aa Ab ca cb _ _ W (blk_below (blk_alloc (blk_new _ _) _) hW) (blk_below (blk_at (by simp)) hW) (Kd.C_below (Kd.C_below HC.out (by repeat (first | with_reducible (exact Below.refl _ _) | with_reducible (apply below_alloc) | with_reducible (apply below_drew1) | with_reducible (apply pw_below_drewN) | (with_reducible (refine bel_set ?_ ?_ _ _); rotate_left; omega)))) hW) (Kd.C_below (Kd.C_below HD.out (by repeat (first | with_reducible (exact Below.refl _ _) | with_reducible (apply below_alloc) | with_reducible (apply below_drew1) | with_reducible (apply pw_below_drewN) | (with_reducible (refine bel_set ?_ ?_ _ _); rotate_left; omega)))) hW) hca hcb hlen
theorem flat1_calls (la : Lab) (Aa : Option Addr) (ca : Nat) (g : Nat) (W : World) (hg : W.heap[g]? = some (.cells #[.slice Aa la.length ca] 23 (0, 0))) (hCa : kPr.C W Aa la.length la) (hca : la.length ≤ ca) (hlen : la.length ≤ 1000000) :
    Calls Try.prog 94 #[.pointer (some ⟨g, 0, none⟩)] W fun e w' => e = .returned (.bool (plainB la)) ∧ Below W.heap.size W w' := by
  have c1 := blk_cell hg 0
  simp only [List.getElem?_toArray, List.getElem?_cons_zero] at c1
  have HC := Lib.hid hCa
  clear hg hCa
  go_enter Try.func94, Try.ntmps94
  go_wp2_with (refine (plain_calls la Aa ca _ HC.out hca hlen).mono ?_; rintro e w1 ⟨rfl, hb⟩)
  go_ret
  exact ⟨rfl, hb⟩
theorem flat_calls (la : Lab) (Aa : Option Addr) (ca : Nat) (w : World) (hCa : kPr.C w Aa la.length la) (hca : la.length ≤ ca) (hlen : la.length ≤ 1000000) :
    Calls Try.prog 76 #[.slice Aa la.length ca] w fun e w' => ∃ fn lb_, e = .returned (.func (.func fn) #[] lb_) ∧ Quest w' (.func (.func fn) #[] lb_) (plainB la) ∧ Below w.heap.size w w' := by
  have HC := Lib.hid hCa
  clear hCa
  go_enter Try.func76, Try.ntmps76
  go_wp2
  go_ret
  refine ⟨_, _, rfl, ⟨94, _, rfl, enters_of Try.func94 (by kernel_rfl) rfl, fun W hW => ?_⟩, (by repeat (first | with_reducible (exact Below.refl _ _) | with_reducible (apply below_alloc) | with_reducible (apply below_drew1) | with_reducible (apply pw_below_drewN) | (with_reducible (refine bel_set ?_ ?_ _ _); rotate_left; omega)))⟩
  exact flat1_calls la Aa ca _ W (blk_below (blk_new _ _) hW) (Kd.C_below (Kd.C_below HC.out (by repeat (first | with_reducible (exact Below.refl _ _) | with_reducible (apply below_alloc) | with_reducible (apply below_drew1) | with_reducible (apply pw_below_drewN) | (with_reducible (refine bel_set ?_ ?_ _ _); rotate_left; omega)))) hW) hca hlen
end Go.Proofs.Ytkajfadhlgmcjaa
end

section
namespace Go.Proofs.Ytkajfadhlgmcjaa
open Go Go.RowKit Go.Shelf Go.Proofs.YtkajfadhlgmcjaaW.PrintWords Go.Proofs.YtkajfadhlgmcjaaW.PrintLast Go.Proofs.YtkajfadhlgmcjaaW.PrintMore
set_option linter.unusedVariables false
set_option linter.unusedSimpArgs false
theorem joinB_len (a b : Lab) : (joinB a b).length ≤ a.length + b.length := foldB_len _ _ _
theorem meetB_len (a b : Lab) : (meetB a b).length ≤ a.length + b.length := foldB_len _ _ _
theorem raiseB_len (a : Lab) : (raiseB a).length ≤ a.length := foldB_len _ _ _
theorem lowerB_len (a : Lab) : (lowerB a).length ≤ a.length := foldB_len _ _ _
theorem raiseC (la : Lab) (Aa : Option Addr) (ca : Nat) (w : World) (hCa : kPr.C w Aa la.length la) (hca : la.length ≤ ca) (hlen : la.length ≤ 1000000) :
    Calls Try.prog 23 #[.slice Aa la.length ca] w fun e w' => ∃ v, e = .returned v ∧ Kd.R kPr 46 w' w.heap.size (fun _ => True) v (raiseB la) ∧ Below w.heap.size w w' := raise_calls la Aa ca w hCa hca hlen
theorem lowerC (la : Lab) (Aa : Option Addr) (ca : Nat) (w : World) (hCa : kPr.C w Aa la.length la) (hca : la.length ≤ ca) (hlen : la.length ≤ 1000000) :
    Calls Try.prog 24 #[.slice Aa la.length ca] w fun e w' => ∃ v, e = .returned v ∧ Kd.R kPr 46 w' w.heap.size (fun _ => True) v (lowerB la) ∧ Below w.heap.size w w' := lower_calls la Aa ca w hCa hca hlen
theorem joinC (la lb : Lab) (Aa Ab : Option Addr) (ca cb : Nat) (w : World) (hCa : kPr.C w Aa la.length la) (hCb : kPr.C w Ab lb.length lb) (hca : la.length ≤ ca) (hcb : lb.length ≤ cb) (hlen : la.length + lb.length ≤ 1000000) :
    Calls Try.prog 20 #[.slice Aa la.length ca, .slice Ab lb.length cb] w fun e w' => ∃ v, e = .returned v ∧ Kd.R kPr 46 w' w.heap.size (fun _ => True) v (joinB la lb) ∧ Below w.heap.size w w' := join_calls la lb Aa Ab ca cb w hCa hCb hca hcb hlen

set_option maxRecDepth 100000 in
set_option maxHeartbeats 1000000 in
theorem become_calls (lT : Lab) (AT : Option Addr) (cT : Nat) (lC : Lab) (AC : Option Addr) (cC : Nat) (lN : Lab) (AN : Option Addr) (cN : Nat) (w : World) (hT : kPr.C w AT lT.length lT) (hcT : lT.length ≤ cT) (hlT : lT.length ≤ 1000) (hC : kPr.C w AC lC.length lC) (hcC : lC.length ≤ cC) (hlC : lC.length ≤ 1000) (hN : kPr.C w AN lN.length lN) (hcN : lN.length ≤ cN) (hlN : lN.length ≤ 1000) :
    Calls Try.prog 37 #[.slice AT lT.length cT, .slice AC lC.length cC, .slice AN lN.length cN] w fun e w' => e = .returned (.bool (plainB lN && (leqB lT lN && leqB lN lC))) ∧ Below w.heap.size w w' := by
  have hT := Lib.hid hT
  have hC := Lib.hid hC
  have hN := Lib.hid hN
  have HB := Lib.hid (Below.refl w.heap.size w)
  go_enter Try.func37, Try.ntmps37
  go_wp2_with fail
  with_reducible refine Calls.mono (flat_calls lN AN cN _ hN.out hcN (by omega)) ?_
  rintro e w1 ⟨f1, b1, rfl, q1, hb⟩
  have hT := Lib.hid (Kd.C_below hT.out hb)
  have hC := Lib.hid (Kd.C_below hC.out hb)
  have hN := Lib.hid (Kd.C_below hN.out hb)
  have HB := Lib.hid (below_step HB.out hb)
  clear hb
  go_wp2_with fail
  with_reducible refine Calls.mono (leqq_calls lT lN AT AN cT cN _ hT.out hN.out hcT hcN (by omega)) ?_
  rintro e w1 ⟨f2, b2, rfl, q2, hb⟩
  have hT := Lib.hid (Kd.C_below hT.out hb)
  have hC := Lib.hid (Kd.C_below hC.out hb)
  have hN := Lib.hid (Kd.C_below hN.out hb)
  have q1 := q1.below hb
  have HB := Lib.hid (below_step HB.out hb)
  clear hb
  go_wp2_with fail
  with_reducible refine Calls.mono (leqq_calls lN lC AN AC cN cC _ hN.out hC.out hcN hcC (by omega)) ?_
  rintro e w1 ⟨f3, b3, rfl, q3, hb⟩
  have hT := Lib.hid (Kd.C_below hT.out hb)
  have hC := Lib.hid (Kd.C_below hC.out hb)
  have hN := Lib.hid (Kd.C_below hN.out hb)
  have q1 := q1.below hb
  have q2 := q2.below hb
  have HB := Lib.hid (below_step HB.out hb)
  clear hb
  go_wp2_with fail
  with_reducible refine Calls.mono (all_calls [((Value.func (.func f1) #[] b1), plainB lN), ((Value.func (.func f2) #[] b2), leqB lT lN), ((Value.func (.func f3) #[] b3), leqB lN lC)] _ 65 _ ?hb ?hq (by simp)) ?_
  case hb => exact blk_at (by simp)
  case hq =>
    intro q hq
    simp only [List.mem_cons, List.not_mem_nil, or_false] at hq
    rcases hq with rfl | rfl | rfl
    · exact q1.below (by repeat (first | with_reducible (exact Below.refl _ _) | with_reducible (apply below_alloc) | with_reducible (apply below_drew1) | with_reducible (apply pw_below_drewN) | (with_reducible (refine bel_set ?_ ?_ _ _); rotate_left; omega)))
    · exact q2.below (by repeat (first | with_reducible (exact Below.refl _ _) | with_reducible (apply below_alloc) | with_reducible (apply below_drew1) | with_reducible (apply pw_below_drewN) | (with_reducible (refine bel_set ?_ ?_ _ _); rotate_left; omega)))
    · exact q3.below (by repeat (first | with_reducible (exact Below.refl _ _) | with_reducible (apply below_alloc) | with_reducible (apply below_drew1) | with_reducible (apply pw_below_drewN) | (with_reducible (refine bel_set ?_ ?_ _ _); rotate_left; omega)))
  rintro e w1 ⟨rfl, hb⟩
  go_wp2_with fail
  go_ret
  exact ⟨by simp, below_step (show Below w.heap.size w _ from (by repeat (first | with_reducible (exact HB.out) | with_reducible (apply below_alloc) | with_reducible (apply below_drew1) | with_reducible (apply pw_below_drewN) | (with_reducible (refine bel_set ?_ ?_ _ _); rotate_left; omega)))) hb⟩

set_option maxRecDepth 100000 in
set_option maxHeartbeats 1000000 in
theorem spawn_calls (lT : Lab) (AT : Option Addr) (cT : Nat) (lC : Lab) (AC : Option Addr) (cC : Nat) (lN : Lab) (AN : Option Addr) (cN : Nat) (lM : Lab) (AM : Option Addr) (cM : Nat) (w : World) (hT : kPr.C w AT lT.length lT) (hcT : lT.length ≤ cT) (hlT : lT.length ≤ 1000) (hC : kPr.C w AC lC.length lC) (hcC : lC.length ≤ cC) (hlC : lC.length ≤ 1000) (hN : kPr.C w AN lN.length lN) (hcN : lN.length ≤ cN) (hlN : lN.length ≤ 1000) (hM : kPr.C w AM lM.length lM) (hcM : lM.length ≤ cM) (hlM : lM.length ≤ 1000) :
    Calls Try.prog 38 #[.slice AT lT.length cT, .slice AC lC.length cC, .slice AN lN.length cN, .slice AM lM.length cM] w fun e w' => e = .returned (.bool (plainB lN && (plainB lM && (leqB lT lN && (leqB lN lM && leqB lM lC))))) ∧ Below w.heap.size w w' := by
  have hT := Lib.hid hT
  have hC := Lib.hid hC
  have hN := Lib.hid hN
  have hM := Lib.hid hM
  have HB := Lib.hid (Below.refl w.heap.size w)
  go_enter Try.func38, Try.ntmps38
  go_wp2_with fail
  with_reducible refine Calls.mono (flat_calls lN AN cN _ hN.out hcN (by omega)) ?_
  rintro e w1 ⟨f1, b1, rfl, q1, hb⟩
  have hT := Lib.hid (Kd.C_below hT.out hb)
  have hC := Lib.hid (Kd.C_below hC.out hb)
  have hN := Lib.hid (Kd.C_below hN.out hb)
  have hM := Lib.hid (Kd.C_below hM.out hb)
  have HB := Lib.hid (below_step HB.out hb)
  clear hb
  go_wp2_with fail
  with_reducible refine Calls.mono (flat_calls lM AM cM _ hM.out hcM (by omega)) ?_
  rintro e w1 ⟨f2, b2, rfl, q2, hb⟩
  have hT := Lib.hid (Kd.C_below hT.out hb)
  have hC := Lib.hid (Kd.C_below hC.out hb)
  have hN := Lib.hid (Kd.C_below hN.out hb)
  have hM := Lib.hid (Kd.C_below hM.out hb)
  have q1 := q1.below hb
  have HB := Lib.hid (below_step HB.out hb)
  clear hb
  go_wp2_with fail
  with_reducible refine Calls.mono (leqq_calls lT lN AT AN cT cN _ hT.out hN.out hcT hcN (by omega)) ?_
  rintro e w1 ⟨f3, b3, rfl, q3, hb⟩
  have hT := Lib.hid (Kd.C_below hT.out hb)
  have hC := Lib.hid (Kd.C_below hC.out hb)
  have hN := Lib.hid (Kd.C_below hN.out hb)
  have hM := Lib.hid (Kd.C_below hM.out hb)
  have q1 := q1.below hb
  have q2 := q2.below hb
  have HB := Lib.hid (below_step HB.out hb)
  clear hb
  go_wp2_with fail
  with_reducible refine Calls.mono (leqq_calls lN lM AN AM cN cM _ hN.out hM.out hcN hcM (by omega)) ?_
  rintro e w1 ⟨f4, b4, rfl, q4, hb⟩
  have hT := Lib.hid (Kd.C_below hT.out hb)
  have hC := Lib.hid (Kd.C_below hC.out hb)
  have hN := Lib.hid (Kd.C_below hN.out hb)
  have hM := Lib.hid (Kd.C_below hM.out hb)
  have q1 := q1.below hb
  have q2 := q2.below hb
  have q3 := q3.below hb
  have HB := Lib.hid (below_step HB.out hb)
  clear hb
  go_wp2_with fail
  with_reducible refine Calls.mono (leqq_calls lM lC AM AC cM cC _ hM.out hC.out hcM hcC (by omega)) ?_
  rintro e w1 ⟨f5, b5, rfl, q5, hb⟩
  have hT := Lib.hid (Kd.C_below hT.out hb)
  have hC := Lib.hid (Kd.C_below hC.out hb)
  have hN := Lib.hid (Kd.C_below hN.out hb)
  have hM := Lib.hid (Kd.C_below hM.out hb)
  have q1 := q1.below hb
  have q2 := q2.below hb
  have q3 := q3.below hb
  have q4 := q4.below hb
  have HB := Lib.hid (below_step HB.out hb)
  clear hb
  go_wp2_with fail
  with_reducible refine Calls.mono (all_calls [((Value.func (.func f1) #[] b1), plainB lN), ((Value.func (.func f2) #[] b2), plainB lM), ((Value.func (.func f3) #[] b3), leqB lT lN), ((Value.func (.func f4) #[] b4), leqB lN lM), ((Value.func (.func f5) #[] b5), leqB lM lC)] _ 65 _ ?hb ?hq (by simp)) ?_
  case hb => exact blk_at (by simp)
  case hq =>
    intro q hq
    simp only [List.mem_cons, List.not_mem_nil, or_false] at hq
    rcases hq with rfl | rfl | rfl | rfl | rfl
    · exact q1.below (by repeat (first | with_reducible (exact Below.refl _ _) | with_reducible (apply below_alloc) | with_reducible (apply below_drew1) | with_reducible (apply pw_below_drewN) | (with_reducible (refine bel_set ?_ ?_ _ _); rotate_left; omega)))
    · exact q2.below (by repeat (first | with_reducible (exact Below.refl _ _) | with_reducible (apply below_alloc) | with_reducible (apply below_drew1) | with_reducible (apply pw_below_drewN) | (with_reducible (refine bel_set ?_ ?_ _ _); rotate_left; omega)))
    · exact q3.below (by repeat (first | with_reducible (exact Below.refl _ _) | with_reducible (apply below_alloc) | with_reducible (apply below_drew1) | with_reducible (apply pw_below_drewN) | (with_reducible (refine bel_set ?_ ?_ _ _); rotate_left; omega)))
    · exact q4.below (by repeat (first | with_reducible (exact Below.refl _ _) | with_reducible (apply below_alloc) | with_reducible (apply below_drew1) | with_reducible (apply pw_below_drewN) | (with_reducible (refine bel_set ?_ ?_ _ _); rotate_left; omega)))
    · exact q5.below (by repeat (first | with_reducible (exact Below.refl _ _) | with_reducible (apply below_alloc) | with_reducible (apply below_drew1) | with_reducible (apply pw_below_drewN) | (with_reducible (refine bel_set ?_ ?_ _ _); rotate_left; omega)))
  rintro e w1 ⟨rfl, hb⟩
  go_wp2_with fail
  go_ret
  exact ⟨by simp, below_step (show Below w.heap.size w _ from (by repeat (first | with_reducible (exact HB.out) | with_reducible (apply below_alloc) | with_reducible (apply below_drew1) | with_reducible (apply pw_below_drewN) | (with_reducible (refine bel_set ?_ ?_ _ _); rotate_left; omega)))) hb⟩

set_option maxRecDepth 100000 in
set_option maxHeartbeats 1000000 in
theorem clear_calls (lT : Lab) (AT : Option Addr) (cT : Nat) (lC : Lab) (AC : Option Addr) (cC : Nat) (lN : Lab) (AN : Option Addr) (cN : Nat) (w : World) (hT : kPr.C w AT lT.length lT) (hcT : lT.length ≤ cT) (hlT : lT.length ≤ 1000) (hC : kPr.C w AC lC.length lC) (hcC : lC.length ≤ cC) (hlC : lC.length ≤ 1000) (hN : kPr.C w AN lN.length lN) (hcN : lN.length ≤ cN) (hlN : lN.length ≤ 1000) :
    Calls Try.prog 50 #[.slice AT lT.length cT, .slice AC lC.length cC, .slice AN lN.length cN] w fun e w' => e = .returned (.bool (plainB lN && (leqB lT lN && leqB lN (joinB lC (raiseB lT))))) ∧ Below w.heap.size w w' := by
  have hT := Lib.hid hT
  have hC := Lib.hid hC
  have hN := Lib.hid hN
  have HB := Lib.hid (Below.refl w.heap.size w)
  go_enter Try.func50, Try.ntmps50
  go_wp2_with fail
  with_reducible refine Calls.mono (flat_calls lN AN cN _ hN.out hcN (by omega)) ?_
  rintro e w1 ⟨f1, b1, rfl, q1, hb⟩
  have hT := Lib.hid (Kd.C_below hT.out hb)
  have hC := Lib.hid (Kd.C_below hC.out hb)
  have hN := Lib.hid (Kd.C_below hN.out hb)
  have HB := Lib.hid (below_step HB.out hb)
  clear hb
  go_wp2_with fail
  with_reducible refine Calls.mono (leqq_calls lT lN AT AN cT cN _ hT.out hN.out hcT hcN (by omega)) ?_
  rintro e w1 ⟨f2, b2, rfl, q2, hb⟩
  have hT := Lib.hid (Kd.C_below hT.out hb)
  have hC := Lib.hid (Kd.C_below hC.out hb)
  have hN := Lib.hid (Kd.C_below hN.out hb)
  have q1 := q1.below hb
  have HB := Lib.hid (below_step HB.out hb)
  clear hb
  go_wp2_with fail
  with_reducible refine Calls.mono (raiseC lT AT cT _ hT.out hcT (by omega)) ?_
  rintro e w1 ⟨v_, rfl, hr, hb⟩
  obtain ⟨AR, cR, rfl, hcR, hmR⟩ := Kd.R_reads hr
  obtain ⟨lR, hlRe⟩ : ∃ l_, l_ = raiseB lT := ⟨_, rfl⟩
  have hlR : lR.length ≤ 1000 := by rw [hlRe]; exact Nat.le_trans (raiseB_len _) hlT
  rw [← hlRe] at hcR hmR ⊢
  have hR := Lib.hid hmR
  have eR := Lib.hid hlRe
  clear hmR hlRe hr
  have hT := Lib.hid (Kd.C_below hT.out hb)
  have hC := Lib.hid (Kd.C_below hC.out hb)
  have hN := Lib.hid (Kd.C_below hN.out hb)
  have q1 := q1.below hb
  have q2 := q2.below hb
  have HB := Lib.hid (below_step HB.out hb)
  clear hb
  go_wp2_with fail
  with_reducible refine Calls.mono (joinC lC lR AC AR cC cR _ hC.out hR.out hcC hcR (by omega)) ?_
  rintro e w1 ⟨v_, rfl, hr, hb⟩
  obtain ⟨AJ, cJ, rfl, hcJ, hmJ⟩ := Kd.R_reads hr
  obtain ⟨lJ, hlJe⟩ : ∃ l_, l_ = joinB lC lR := ⟨_, rfl⟩
  have hlJ : lJ.length ≤ 2000 := by rw [hlJe]; exact Nat.le_trans (joinB_len _ _) (by omega)
  rw [← hlJe] at hcJ hmJ ⊢
  have hJ := Lib.hid hmJ
  have eJ := Lib.hid hlJe
  clear hmJ hlJe hr
  have hT := Lib.hid (Kd.C_below hT.out hb)
  have hC := Lib.hid (Kd.C_below hC.out hb)
  have hN := Lib.hid (Kd.C_below hN.out hb)
  have hR := Lib.hid (Kd.C_below hR.out hb)
  have q1 := q1.below hb
  have q2 := q2.below hb
  have HB := Lib.hid (below_step HB.out hb)
  clear hb
  go_wp2_with fail
  with_reducible refine Calls.mono (leqq_calls lN lJ AN AJ cN cJ _ hN.out hJ.out hcN hcJ (by omega)) ?_
  rintro e w1 ⟨f3, b3, rfl, q3, hb⟩
  have hT := Lib.hid (Kd.C_below hT.out hb)
  have hC := Lib.hid (Kd.C_below hC.out hb)
  have hN := Lib.hid (Kd.C_below hN.out hb)
  have hR := Lib.hid (Kd.C_below hR.out hb)
  have hJ := Lib.hid (Kd.C_below hJ.out hb)
  have q1 := q1.below hb
  have q2 := q2.below hb
  have HB := Lib.hid (below_step HB.out hb)
  clear hb
  go_wp2_with fail
  with_reducible refine Calls.mono (all_calls [((Value.func (.func f1) #[] b1), plainB lN), ((Value.func (.func f2) #[] b2), leqB lT lN), ((Value.func (.func f3) #[] b3), leqB lN lJ)] _ 65 _ ?hb ?hq (by simp)) ?_
  case hb => exact blk_at (by simp)
  case hq =>
    intro q hq
    simp only [List.mem_cons, List.not_mem_nil, or_false] at hq
    rcases hq with rfl | rfl | rfl
    · exact q1.below (by repeat (first | with_reducible (exact Below.refl _ _) | with_reducible (apply below_alloc) | with_reducible (apply below_drew1) | with_reducible (apply pw_below_drewN) | (with_reducible (refine bel_set ?_ ?_ _ _); rotate_left; omega)))
    · exact q2.below (by repeat (first | with_reducible (exact Below.refl _ _) | with_reducible (apply below_alloc) | with_reducible (apply below_drew1) | with_reducible (apply pw_below_drewN) | (with_reducible (refine bel_set ?_ ?_ _ _); rotate_left; omega)))
    · exact q3.below (by repeat (first | with_reducible (exact Below.refl _ _) | with_reducible (apply below_alloc) | with_reducible (apply below_drew1) | with_reducible (apply pw_below_drewN) | (with_reducible (refine bel_set ?_ ?_ _ _); rotate_left; omega)))
  rintro e w1 ⟨rfl, hb⟩
  go_wp2_with fail
  go_ret
  exact ⟨by rw [← eR.out]; rw [← eJ.out]; simp, below_step (show Below w.heap.size w _ from (by repeat (first | with_reducible (exact HB.out) | with_reducible (apply below_alloc) | with_reducible (apply below_drew1) | with_reducible (apply pw_below_drewN) | (with_reducible (refine bel_set ?_ ?_ _ _); rotate_left; omega)))) hb⟩

set_option maxRecDepth 100000 in
set_option maxHeartbeats 1000000 in
theorem enter_calls (lT : Lab) (AT : Option Addr) (cT : Nat) (lC : Lab) (AC : Option Addr) (cC : Nat) (lG : Lab) (AG : Option Addr) (cG : Nat) (lK : Lab) (AK : Option Addr) (cK : Nat) (lN : Lab) (AN : Option Addr) (cN : Nat) (lM : Lab) (AM : Option Addr) (cM : Nat) (w : World) (hT : kPr.C w AT lT.length lT) (hcT : lT.length ≤ cT) (hlT : lT.length ≤ 1000) (hC : kPr.C w AC lC.length lC) (hcC : lC.length ≤ cC) (hlC : lC.length ≤ 1000) (hG : kPr.C w AG lG.length lG) (hcG : lG.length ≤ cG) (hlG : lG.length ≤ 1000) (hK : kPr.C w AK lK.length lK) (hcK : lK.length ≤ cK) (hlK : lK.length ≤ 1000) (hN : kPr.C w AN lN.length lN) (hcN : lN.length ≤ cN) (hlN : lN.length ≤ 1000) (hM : kPr.C w AM lM.length lM) (hcM : lM.length ≤ cM) (hlM : lM.length ≤ 1000) :
    Calls Try.prog 42 #[.slice AT lT.length cT, .slice AC lC.length cC, .slice AG lG.length cG, .slice AK lK.length cK, .slice AN lN.length cN, .slice AM lM.length cM] w fun e w' => e = .returned (.bool (plainB lN && (plainB lM && (leqB lT lK && (leqB (lowerB (joinB (raiseB lT) (raiseB lG))) lN && (leqB lN lM && leqB lM (joinB lC lK))))))) ∧ Below w.heap.size w w' := by
  have hT := Lib.hid hT
  have hC := Lib.hid hC
  have hG := Lib.hid hG
  have hK := Lib.hid hK
  have hN := Lib.hid hN
  have hM := Lib.hid hM
  have HB := Lib.hid (Below.refl w.heap.size w)
  go_enter Try.func42, Try.ntmps42
  go_wp2_with fail
  with_reducible refine Calls.mono (raiseC lT AT cT _ hT.out hcT (by omega)) ?_
  rintro e w1 ⟨v_, rfl, hr, hb⟩
  obtain ⟨AR, cR, rfl, hcR, hmR⟩ := Kd.R_reads hr
  obtain ⟨lR, hlRe⟩ : ∃ l_, l_ = raiseB lT := ⟨_, rfl⟩
  have hlR : lR.length ≤ 1000 := by rw [hlRe]; exact Nat.le_trans (raiseB_len _) hlT
  rw [← hlRe] at hcR hmR ⊢
  have hR := Lib.hid hmR
  have eR := Lib.hid hlRe
  clear hmR hlRe hr
  have hT := Lib.hid (Kd.C_below hT.out hb)
  have hC := Lib.hid (Kd.C_below hC.out hb)
  have hG := Lib.hid (Kd.C_below hG.out hb)
  have hK := Lib.hid (Kd.C_below hK.out hb)
  have hN := Lib.hid (Kd.C_below hN.out hb)
  have hM := Lib.hid (Kd.C_below hM.out hb)
  have HB := Lib.hid (below_step HB.out hb)
  clear hb
  go_wp2_with fail
  with_reducible refine Calls.mono (raiseC lG AG cG _ hG.out hcG (by omega)) ?_
  rintro e w1 ⟨v_, rfl, hr, hb⟩
  obtain ⟨AS, cS, rfl, hcS, hmS⟩ := Kd.R_reads hr
  obtain ⟨lS, hlSe⟩ : ∃ l_, l_ = raiseB lG := ⟨_, rfl⟩
  have hlS : lS.length ≤ 1000 := by rw [hlSe]; exact Nat.le_trans (raiseB_len _) hlG
  rw [← hlSe] at hcS hmS ⊢
  have hS := Lib.hid hmS
  have eS := Lib.hid hlSe
  clear hmS hlSe hr
  have hT := Lib.hid (Kd.C_below hT.out hb)
  have hC := Lib.hid (Kd.C_below hC.out hb)
  have hG := Lib.hid (Kd.C_below hG.out hb)
  have hK := Lib.hid (Kd.C_below hK.out hb)
  have hN := Lib.hid (Kd.C_below hN.out hb)
  have hM := Lib.hid (Kd.C_below hM.out hb)
  have hR := Lib.hid (Kd.C_below hR.out hb)
  have HB := Lib.hid (below_step HB.out hb)
  clear hb
  go_wp2_with fail
  with_reducible refine Calls.mono (joinC lR lS AR AS cR cS _ hR.out hS.out hcR hcS (by omega)) ?_
  rintro e w1 ⟨v_, rfl, hr, hb⟩
  obtain ⟨AJ, cJ, rfl, hcJ, hmJ⟩ := Kd.R_reads hr
  obtain ⟨lJ, hlJe⟩ : ∃ l_, l_ = joinB lR lS := ⟨_, rfl⟩
  have hlJ : lJ.length ≤ 2000 := by rw [hlJe]; exact Nat.le_trans (joinB_len _ _) (by omega)
  rw [← hlJe] at hcJ hmJ ⊢
  have hJ := Lib.hid hmJ
  have eJ := Lib.hid hlJe
  clear hmJ hlJe hr
  have hT := Lib.hid (Kd.C_below hT.out hb)
  have hC := Lib.hid (Kd.C_below hC.out hb)
  have hG := Lib.hid (Kd.C_below hG.out hb)
  have hK := Lib.hid (Kd.C_below hK.out hb)
  have hN := Lib.hid (Kd.C_below hN.out hb)
  have hM := Lib.hid (Kd.C_below hM.out hb)
  have hR := Lib.hid (Kd.C_below hR.out hb)
  have hS := Lib.hid (Kd.C_below hS.out hb)
  have HB := Lib.hid (below_step HB.out hb)
  clear hb
  go_wp2_with fail
  with_reducible refine Calls.mono (lowerC lJ AJ cJ _ hJ.out hcJ (by omega)) ?_
  rintro e w1 ⟨v_, rfl, hr, hb⟩
  obtain ⟨AL, cL, rfl, hcL, hmL⟩ := Kd.R_reads hr
  obtain ⟨lL, hlLe⟩ : ∃ l_, l_ = lowerB lJ := ⟨_, rfl⟩
  have hlL : lL.length ≤ 2000 := by rw [hlLe]; exact Nat.le_trans (lowerB_len _) hlJ
  rw [← hlLe] at hcL hmL ⊢
  have hL := Lib.hid hmL
  have eL := Lib.hid hlLe
  clear hmL hlLe hr
  have hT := Lib.hid (Kd.C_below hT.out hb)
  have hC := Lib.hid (Kd.C_below hC.out hb)
  have hG := Lib.hid (Kd.C_below hG.out hb)
  have hK := Lib.hid (Kd.C_below hK.out hb)
  have hN := Lib.hid (Kd.C_below hN.out hb)
  have hM := Lib.hid (Kd.C_below hM.out hb)
  have hR := Lib.hid (Kd.C_below hR.out hb)
  have hS := Lib.hid (Kd.C_below hS.out hb)
  have hJ := Lib.hid (Kd.C_below hJ.out hb)
  have HB := Lib.hid (below_step HB.out hb)
  clear hb
  go_wp2_with fail
  with_reducible refine Calls.mono (flat_calls lN AN cN _ hN.out hcN (by omega)) ?_
  rintro e w1 ⟨f1, b1, rfl, q1, hb⟩
  have hT := Lib.hid (Kd.C_below hT.out hb)
  have hC := Lib.hid (Kd.C_below hC.out hb)
  have hG := Lib.hid (Kd.C_below hG.out hb)
  have hK := Lib.hid (Kd.C_below hK.out hb)
  have hN := Lib.hid (Kd.C_below hN.out hb)
  have hM := Lib.hid (Kd.C_below hM.out hb)
  have hR := Lib.hid (Kd.C_below hR.out hb)
  have hS := Lib.hid (Kd.C_below hS.out hb)
  have hJ := Lib.hid (Kd.C_below hJ.out hb)
  have hL := Lib.hid (Kd.C_below hL.out hb)
  have HB := Lib.hid (below_step HB.out hb)
  clear hb
  go_wp2_with fail
  with_reducible refine Calls.mono (flat_calls lM AM cM _ hM.out hcM (by omega)) ?_
  rintro e w1 ⟨f2, b2, rfl, q2, hb⟩
  have hT := Lib.hid (Kd.C_below hT.out hb)
  have hC := Lib.hid (Kd.C_below hC.out hb)
  have hG := Lib.hid (Kd.C_below hG.out hb)
  have hK := Lib.hid (Kd.C_below hK.out hb)
  have hN := Lib.hid (Kd.C_below hN.out hb)
  have hM := Lib.hid (Kd.C_below hM.out hb)
  have hR := Lib.hid (Kd.C_below hR.out hb)
  have hS := Lib.hid (Kd.C_below hS.out hb)
  have hJ := Lib.hid (Kd.C_below hJ.out hb)
  have hL := Lib.hid (Kd.C_below hL.out hb)
  have q1 := q1.below hb
  have HB := Lib.hid (below_step HB.out hb)
  clear hb
  go_wp2_with fail
  with_reducible refine Calls.mono (leqq_calls lT lK AT AK cT cK _ hT.out hK.out hcT hcK (by omega)) ?_
  rintro e w1 ⟨f3, b3, rfl, q3, hb⟩
  have hT := Lib.hid (Kd.C_below hT.out hb)
  have hC := Lib.hid (Kd.C_below hC.out hb)
  have hG := Lib.hid (Kd.C_below hG.out hb)
  have hK := Lib.hid (Kd.C_below hK.out hb)
  have hN := Lib.hid (Kd.C_below hN.out hb)
  have hM := Lib.hid (Kd.C_below hM.out hb)
  have hR := Lib.hid (Kd.C_below hR.out hb)
  have hS := Lib.hid (Kd.C_below hS.out hb)
  have hJ := Lib.hid (Kd.C_below hJ.out hb)
  have hL := Lib.hid (Kd.C_below hL.out hb)
  have q1 := q1.below hb
  have q2 := q2.below hb
  have HB := Lib.hid (below_step HB.out hb)
  clear hb
  go_wp2_with fail
  with_reducible refine Calls.mono (leqq_calls lL lN AL AN cL cN _ hL.out hN.out hcL hcN (by omega)) ?_
  rintro e w1 ⟨f4, b4, rfl, q4, hb⟩
  have hT := Lib.hid (Kd.C_below hT.out hb)
  have hC := Lib.hid (Kd.C_below hC.out hb)
  have hG := Lib.hid (Kd.C_below hG.out hb)
  have hK := Lib.hid (Kd.C_below hK.out hb)
  have hN := Lib.hid (Kd.C_below hN.out hb)
  have hM := Lib.hid (Kd.C_below hM.out hb)
  have hR := Lib.hid (Kd.C_below hR.out hb)
  have hS := Lib.hid (Kd.C_below hS.out hb)
  have hJ := Lib.hid (Kd.C_below hJ.out hb)
  have hL := Lib.hid (Kd.C_below hL.out hb)
  have q1 := q1.below hb
  have q2 := q2.below hb
  have q3 := q3.below hb
  have HB := Lib.hid (below_step HB.out hb)
  clear hb
  go_wp2_with fail
  with_reducible refine Calls.mono (leqq_calls lN lM AN AM cN cM _ hN.out hM.out hcN hcM (by omega)) ?_
  rintro e w1 ⟨f5, b5, rfl, q5, hb⟩
  have hT := Lib.hid (Kd.C_below hT.out hb)
  have hC := Lib.hid (Kd.C_below hC.out hb)
  have hG := Lib.hid (Kd.C_below hG.out hb)
  have hK := Lib.hid (Kd.C_below hK.out hb)
  have hN := Lib.hid (Kd.C_below hN.out hb)
  have hM := Lib.hid (Kd.C_below hM.out hb)
  have hR := Lib.hid (Kd.C_below hR.out hb)
  have hS := Lib.hid (Kd.C_below hS.out hb)
  have hJ := Lib.hid (Kd.C_below hJ.out hb)
  have hL := Lib.hid (Kd.C_below hL.out hb)
  have q1 := q1.below hb
  have q2 := q2.below hb
  have q3 := q3.below hb
  have q4 := q4.below hb
  have HB := Lib.hid (below_step HB.out hb)
  clear hb
  go_wp2_with fail
  with_reducible refine Calls.mono (joinC lC lK AC AK cC cK _ hC.out hK.out hcC hcK (by omega)) ?_
  rintro e w1 ⟨v_, rfl, hr, hb⟩
  obtain ⟨AI, cI, rfl, hcI, hmI⟩ := Kd.R_reads hr
  obtain ⟨lI, hlIe⟩ : ∃ l_, l_ = joinB lC lK := ⟨_, rfl⟩
  have hlI : lI.length ≤ 2000 := by rw [hlIe]; exact Nat.le_trans (joinB_len _ _) (by omega)
  rw [← hlIe] at hcI hmI ⊢
  have hI := Lib.hid hmI
  have eI := Lib.hid hlIe
  clear hmI hlIe hr
  have hT := Lib.hid (Kd.C_below hT.out hb)
  have hC := Lib.hid (Kd.C_below hC.out hb)
  have hG := Lib.hid (Kd.C_below hG.out hb)
  have hK := Lib.hid (Kd.C_below hK.out hb)
  have hN := Lib.hid (Kd.C_below hN.out hb)
  have hM := Lib.hid (Kd.C_below hM.out hb)
  have hR := Lib.hid (Kd.C_below hR.out hb)
  have hS := Lib.hid (Kd.C_below hS.out hb)
  have hJ := Lib.hid (Kd.C_below hJ.out hb)
  have hL := Lib.hid (Kd.C_below hL.out hb)
  have q1 := q1.below hb
  have q2 := q2.below hb
  have q3 := q3.below hb
  have q4 := q4.below hb
  have q5 := q5.below hb
  have HB := Lib.hid (below_step HB.out hb)
  clear hb
  go_wp2_with fail
  with_reducible refine Calls.mono (leqq_calls lM lI AM AI cM cI _ hM.out hI.out hcM hcI (by omega)) ?_
  rintro e w1 ⟨f6, b6, rfl, q6, hb⟩
  have hT := Lib.hid (Kd.C_below hT.out hb)
  have hC := Lib.hid (Kd.C_below hC.out hb)
  have hG := Lib.hid (Kd.C_below hG.out hb)
  have hK := Lib.hid (Kd.C_below hK.out hb)
  have hN := Lib.hid (Kd.C_below hN.out hb)
  have hM := Lib.hid (Kd.C_below hM.out hb)
  have hR := Lib.hid (Kd.C_below hR.out hb)
  have hS := Lib.hid (Kd.C_below hS.out hb)
  have hJ := Lib.hid (Kd.C_below hJ.out hb)
  have hL := Lib.hid (Kd.C_below hL.out hb)
  have hI := Lib.hid (Kd.C_below hI.out hb)
  have q1 := q1.below hb
  have q2 := q2.below hb
  have q3 := q3.below hb
  have q4 := q4.below hb
  have q5 := q5.below hb
  have HB := Lib.hid (below_step HB.out hb)
  clear hb
  go_wp2_with fail
  with_reducible refine Calls.mono (all_calls [((Value.func (.func f1) #[] b1), plainB lN), ((Value.func (.func f2) #[] b2), plainB lM), ((Value.func (.func f3) #[] b3), leqB lT lK), ((Value.func (.func f4) #[] b4), leqB lL lN), ((Value.func (.func f5) #[] b5), leqB lN lM), ((Value.func (.func f6) #[] b6), leqB lM lI)] _ 65 _ ?hb ?hq (by simp)) ?_
  case hb => exact blk_at (by simp)
  case hq =>
    intro q hq
    simp only [List.mem_cons, List.not_mem_nil, or_false] at hq
    rcases hq with rfl | rfl | rfl | rfl | rfl | rfl
    · exact q1.below (by repeat (first | with_reducible (exact Below.refl _ _) | with_reducible (apply below_alloc) | with_reducible (apply below_drew1) | with_reducible (apply pw_below_drewN) | (with_reducible (refine bel_set ?_ ?_ _ _); rotate_left; omega)))
    · exact q2.below (by repeat (first | with_reducible (exact Below.refl _ _) | with_reducible (apply below_alloc) | with_reducible (apply below_drew1) | with_reducible (apply pw_below_drewN) | (with_reducible (refine bel_set ?_ ?_ _ _); rotate_left; omega)))
    · exact q3.below (by repeat (first | with_reducible (exact Below.refl _ _) | with_reducible (apply below_alloc) | with_reducible (apply below_drew1) | with_reducible (apply pw_below_drewN) | (with_reducible (refine bel_set ?_ ?_ _ _); rotate_left; omega)))
    · exact q4.below (by repeat (first | with_reducible (exact Below.refl _ _) | with_reducible (apply below_alloc) | with_reducible (apply below_drew1) | with_reducible (apply pw_below_drewN) | (with_reducible (refine bel_set ?_ ?_ _ _); rotate_left; omega)))
    · exact q5.below (by repeat (first | with_reducible (exact Below.refl _ _) | with_reducible (apply below_alloc) | with_reducible (apply below_drew1) | with_reducible (apply pw_below_drewN) | (with_reducible (refine bel_set ?_ ?_ _ _); rotate_left; omega)))
    · exact q6.below (by repeat (first | with_reducible (exact Below.refl _ _) | with_reducible (apply below_alloc) | with_reducible (apply below_drew1) | with_reducible (apply pw_below_drewN) | (with_reducible (refine bel_set ?_ ?_ _ _); rotate_left; omega)))
  rintro e w1 ⟨rfl, hb⟩
  go_wp2_with fail
  go_ret
  exact ⟨by rw [← eR.out]; rw [← eS.out]; rw [← eJ.out]; rw [← eL.out]; rw [← eI.out]; simp, below_step (show Below w.heap.size w _ from (by repeat (first | with_reducible (exact HB.out) | with_reducible (apply below_alloc) | with_reducible (apply below_drew1) | with_reducible (apply pw_below_drewN) | (with_reducible (refine bel_set ?_ ?_ _ _); rotate_left; omega)))) hb⟩

theorem all_new (qs : List (Value × Bool)) (arr : Array Value) (n : Nat) (t : TypeId) (W : World) (hn : n = qs.length) (ha : arr = (qs.map (·.1)).toArray) (h100 : qs.length ≤ 100) (hq : ∀ q ∈ qs, Quest W q.1 q.2) :
    Calls Try.prog 69 #[.slice (some ⟨W.heap.size, 0, none⟩) n n] (W.alloc (.cells arr t)) fun e w' => e = .returned (.bool (qs.all (·.2))) ∧ Below W.heap.size W w' := by
  subst hn; subst ha
  have hb : Below W.heap.size W (W.alloc (.cells (qs.map (·.1)).toArray t)) := (Below.refl _ _).alloc (Nat.le_refl _) _
  refine (all_calls qs W.heap.size t _ (blk_new _ _) (fun q h => (hq q h).below hb) h100).mono ?_
  rintro e w' ⟨rfl, h⟩
  exact ⟨rfl, below_step hb h⟩
theorem quest4 {W : World} {v1 v2 v3 v4 : Value} {b1 b2 b3 b4 : Bool} (h1 : Quest W v1 b1) (h2 : Quest W v2 b2) (h3 : Quest W v3 b3) (h4 : Quest W v4 b4) : ∀ q ∈ [(v1, b1), (v2, b2), (v3, b3), (v4, b4)], Quest W q.1 q.2 := by
  intro q hq
  simp only [List.mem_cons, List.not_mem_nil, or_false] at hq
  rcases hq with rfl | rfl | rfl | rfl <;> assumption
theorem observe_calls (lT : Lab) (AT : Option Addr) (cT : Nat) (lO : Lab) (AO : Option Addr) (cO : Nat) (w : World) (hT : kPr.C w AT lT.length lT) (hcT : lT.length ≤ cT) (hlT : lT.length ≤ 1000) (hO : kPr.C w AO lO.length lO) (hcO : lO.length ≤ cO) (hlO : lO.length ≤ 1000) :
    Calls Try.prog 29 #[.slice AT lT.length cT, .slice AO lO.length cO] w fun e w' => e = .returned (.bool (leqB lO (raiseB lT))) ∧ Below w.heap.size w w' := by
  have hT := Lib.hid hT
  have hO := Lib.hid hO
  have HB := Lib.hid (Below.refl w.heap.size w)
  have HL : Hid ((raiseB lT).length ≤ 1000) := Lib.hid (Nat.le_trans (raiseB_len _) hlT)
  go_enter Try.func29, Try.ntmps29
  go_wp2_with fail
  with_reducible refine Calls.mono (raiseC lT AT cT _ hT.out hcT (by omega)) ?_
  rintro e w1 ⟨v_, rfl, hr, hb⟩
  obtain ⟨AR, cR, rfl, hcR, hmR⟩ := Kd.R_reads hr
  have hR := Lib.hid hmR
  have hO := Lib.hid (Kd.C_below hO.out hb)
  have HB := Lib.hid (below_step HB.out hb)
  clear hmR hr hb
  go_wp2_with fail
  with_reducible refine Calls.mono (leq_calls lO (raiseB lT) AO AR cO cR _ hO.out hR.out hcO hcR (by have := HL.out; omega)) ?_
  rintro e w1 ⟨rfl, hb⟩
  go_wp2_with fail
  go_ret
  exact ⟨rfl, below_step HB.out hb⟩
theorem modify1_calls (lT : Lab) (AT : Option Addr) (cT : Nat) (lO : Lab) (AO : Option Addr) (cO : Nat) (g h : Nat) (W : World) (hg : W.heap[g]? = some (.cells #[.slice AT lT.length cT] 23 (0, 0))) (hh : W.heap[h]? = some (.cells #[.slice AO lO.length cO] 23 (0, 0)))
    (hT : kPr.C W AT lT.length lT) (hcT : lT.length ≤ cT) (hlT : lT.length ≤ 1000) (hO : kPr.C W AO lO.length lO) (hcO : lO.length ≤ cO) (hlO : lO.length ≤ 1000) :
    Calls Try.prog 71 #[.pointer (some ⟨g, 0, none⟩), .pointer (some ⟨h, 0, none⟩)] W fun e w' => e = .returned (.bool (leqB lO (raiseB lT))) ∧ Below W.heap.size W w' := by
  have c1 := blk_cell hg 0
  have c2 := blk_cell hh 0
  simp only [List.getElem?_toArray, List.getElem?_cons_zero] at c1 c2
  have hT := Lib.hid hT
  have hO := Lib.hid hO
  clear hg hh
  go_enter Try.func71, Try.ntmps71
  go_wp2_with (with_reducible refine Calls.mono (observe_calls lT AT cT lO AO cO _ hT.out hcT hlT hO.out hcO hlO) ?_; rintro e w1 ⟨rfl, hb⟩)
  go_ret
  exact ⟨rfl, hb⟩
set_option maxRecDepth 100000 in
set_option maxHeartbeats 1000000 in
theorem modify_calls (lT : Lab) (AT : Option Addr) (cT : Nat) (lO : Lab) (AO : Option Addr) (cO : Nat) (w : World) (hT : kPr.C w AT lT.length lT) (hcT : lT.length ≤ cT) (hlT : lT.length ≤ 1000) (hO : kPr.C w AO lO.length lO) (hcO : lO.length ≤ cO) (hlO : lO.length ≤ 1000) :
    Calls Try.prog 31 #[.slice AT lT.length cT, .slice AO lO.length cO] w fun e w' => e = .returned (.bool (leqB lT lO && leqB lO (raiseB lT))) ∧ Below w.heap.size w w' := by
  have B0 : Below w.heap.size w ((w.alloc (.cells #[.slice AT lT.length cT] 23)).alloc (.cells #[.slice AO lO.length cO] 23)) := (by repeat (first | with_reducible (exact Below.refl _ _) | with_reducible (apply below_alloc) | with_reducible (apply below_drew1) | with_reducible (apply pw_below_drewN) | (with_reducible (refine bel_set ?_ ?_ _ _); rotate_left; omega)))
  have hT := Lib.hid (Kd.C_below hT B0)
  have hO := Lib.hid (Kd.C_below hO B0)
  have HB := Lib.hid B0
  clear B0
  go_enter Try.func31, Try.ntmps31
  go_wp2_with fail
  with_reducible refine Calls.mono (leqq_calls lT lO AT AO cT cO _ hT.out hO.out hcT hcO (by omega)) ?_
  rintro e w1 ⟨f1, b1, rfl, q1, hb⟩
  have hT := Lib.hid (Kd.C_below hT.out hb)
  have hO := Lib.hid (Kd.C_below hO.out hb)
  have HB := Lib.hid (below_step HB.out hb)
  have g1 := Lib.hid (blk_below (blk_alloc (blk_new w (.cells #[.slice AT lT.length cT] 23)) (.cells #[.slice AO lO.length cO] 23)) hb)
  have g2 := Lib.hid (blk_below (g := w.heap.size + 1) (blk_at (w := w.alloc (.cells #[.slice AT lT.length cT] 23)) (o := .cells #[.slice AO lO.length cO] 23) (by simp)) hb)
  clear hb
  have q2 : Quest w1 (Value.func (.func 71) #[] #[.pointer (some ⟨w.heap.size, 0, none⟩), .pointer (some ⟨w.heap.size + 1, 0, none⟩)]) (leqB lO (raiseB lT)) :=
    ⟨71, _, rfl, enters_of Try.func71 (by kernel_rfl) rfl, fun W hW => modify1_calls lT AT cT lO AO cO _ _ W (blk_below g1.out hW) (blk_below g2.out hW) (Kd.C_below hT.out hW) hcT hlT (Kd.C_below hO.out hW) hcO hlO⟩
  go_wp2_with fail
  with_reducible refine Calls.mono (all_calls [((Value.func (.func f1) #[] b1), leqB lT lO), ((Value.func (.func 71) #[] #[.pointer (some ⟨w.heap.size, 0, none⟩), .pointer (some ⟨w.heap.size + 1, 0, none⟩)]), leqB lO (raiseB lT))] _ 65 _ ?hb ?hq (by simp)) ?_
  case hb => exact blk_at (by simp)
  case hq =>
    intro q hq
    simp only [List.mem_cons, List.not_mem_nil, or_false] at hq
    rcases hq with rfl | rfl
    · exact q1.below (by repeat (first | with_reducible (exact Below.refl _ _) | with_reducible (apply below_alloc) | with_reducible (apply below_drew1) | with_reducible (apply pw_below_drewN) | (with_reducible (refine bel_set ?_ ?_ _ _); rotate_left; omega)))
    · exact q2.below (by repeat (first | with_reducible (exact Below.refl _ _) | with_reducible (apply below_alloc) | with_reducible (apply below_drew1) | with_reducible (apply pw_below_drewN) | (with_reducible (refine bel_set ?_ ?_ _ _); rotate_left; omega)))
  rintro e w2 ⟨rfl, hb⟩
  go_wp2_with fail
  go_ret
  exact ⟨by simp, below_step (show Below w.heap.size w _ from (by repeat (first | with_reducible (exact HB.out) | with_reducible (apply below_alloc) | with_reducible (apply below_drew1) | with_reducible (apply pw_below_drewN) | (with_reducible (refine bel_set ?_ ?_ _ _); rotate_left; omega)))) hb⟩
theorem create1_calls (lO : Lab) (AO : Option Addr) (cO : Nat) (g : Nat) (W : World) (hg : W.heap[g]? = some (.cells #[.slice AO lO.length cO] 23 (0, 0)))
    (hO : kPr.C W AO lO.length lO) (hcO : lO.length ≤ cO) (hlO : lO.length ≤ 1000) :
    Calls Try.prog 77 #[.pointer (some ⟨g, 0, none⟩)] W fun e w' => e = .returned (.bool (decide (ownedB lO = []))) ∧ Below W.heap.size W w' := by
  have c1 := blk_cell hg 0
  simp only [List.getElem?_toArray, List.getElem?_cons_zero] at c1
  have hO := Lib.hid hO
  clear hg
  cases ho : ownedB lO with
  | nil =>
    have HO := Lib.hid ho
    clear ho
    go_enter Try.func77, Try.ntmps77
    go_wp2_with (with_reducible refine Calls.mono (owned_calls lO AO cO _ hO.out hcO (by omega)) ?_; rw [HO.out]; rintro e w1 ⟨v, rfl, hr, hb⟩; obtain ⟨A, c, rfl, _, _⟩ := Kd.R_reads hr; clear hr)
    go_ret
    exact ⟨by simp, hb⟩
  | cons x t =>
    have HO := Lib.hid ho
    clear ho
    have e1 : (((x :: t : List Int).length : Int) == 0) = false := by rw [beq_eq_false_iff_ne]; simp; omega
    go_enter Try.func77, Try.ntmps77
    go_wp2_with (with_reducible refine Calls.mono (owned_calls lO AO cO _ hO.out hcO (by omega)) ?_; rw [HO.out]; rintro e w1 ⟨v, rfl, hr, hb⟩; obtain ⟨A, c, rfl, _, _⟩ := Kd.R_reads hr; clear hr)
    go_ret
    exact ⟨by simp at e1 ⊢; try omega, hb⟩
set_option maxRecDepth 100000 in
set_option maxHeartbeats 2000000 in
theorem create_calls (lT : Lab) (AT : Option Addr) (cT : Nat) (lC : Lab) (AC : Option Addr) (cC : Nat) (lO : Lab) (AO : Option Addr) (cO : Nat) (w : World) (hT : kPr.C w AT lT.length lT) (hcT : lT.length ≤ cT) (hlT : lT.length ≤ 1000) (hC : kPr.C w AC lC.length lC) (hcC : lC.length ≤ cC) (hlC : lC.length ≤ 1000) (hO : kPr.C w AO lO.length lO) (hcO : lO.length ≤ cO) (hlO : lO.length ≤ 1000) :
    Calls Try.prog 41 #[.slice AT lT.length cT, .slice AC lC.length cC, .slice AO lO.length cO] w fun e w' => e = .returned (.bool (decide (ownedB lO = []) && (plainB lO && (leqB lT lO && leqB lO lC)))) ∧ Below w.heap.size w w' := by
  obtain ⟨w0, hw0⟩ : ∃ w0, w.alloc (.cells #[.slice AO lO.length cO] 23) = w0 := ⟨_, rfl⟩
  have B0 : Below w.heap.size w w0 := by rw [← hw0]; exact (by repeat (first | with_reducible (exact Below.refl _ _) | with_reducible (apply below_alloc) | with_reducible (apply below_drew1) | with_reducible (apply pw_below_drewN) | (with_reducible (refine bel_set ?_ ?_ _ _); rotate_left; omega)))
  have g0 : w0.heap[w.heap.size]? = some (.cells #[.slice AO lO.length cO] 23 (0, 0)) := by rw [← hw0]; exact blk_new _ _
  have hT := Lib.hid (Kd.C_below hT B0)
  have hC := Lib.hid (Kd.C_below hC B0)
  have hO := Lib.hid (Kd.C_below hO B0)
  have HB := Lib.hid B0
  have q1 : Quest w0 (Value.func (.func 77) #[] #[.pointer (some ⟨w.heap.size, 0, none⟩)]) (decide (ownedB lO = [])) :=
    ⟨77, _, rfl, enters_of Try.func77 (by kernel_rfl) rfl, fun W hW => create1_calls lO AO cO _ W (blk_below g0 hW) (Kd.C_below hO.out hW) hcO hlO⟩
  have c1 := blk_cell g0 0
  simp only [List.getElem?_toArray, List.getElem?_cons_zero] at c1
  have lt0 : w.heap.size < w0.heap.size := by rw [← hw0]; simp
  have HW := Lib.hid hw0
  clear B0 g0
  go_enter Try.func41, Try.ntmps41
  go_wp2_with fail
  clear hw0
  have hTO : lT.length + lO.length ≤ 1000000 := by omega
  have hOC : lO.length + lC.length ≤ 1000000 := by omega
  have hOO : lO.length ≤ 1000000 := by omega
  have hb0 : Below w0.heap.size w0 w0.drew := (Below.refl _ _).drew
  have hT := Lib.hid (Kd.C_below hT.out hb0)
  have hC := Lib.hid (Kd.C_below hC.out hb0)
  have hO := Lib.hid (Kd.C_below hO.out hb0)
  have q1 := q1.below hb0
  have HB := Lib.hid (below_step HB.out hb0)
  have c1 := pw_cell_below hb0 c1
  clear hb0
  go_region_held3 (fun W => W.cell? ⟨w.heap.size, 0, none⟩ = some (.slice AO lO.length cO)) (go_keep)
    (first
      | (go_at_call 76; with_reducible refine Calls.mono (flat_calls lO AO cO _ hO.out hcO hOO) ?_; rintro e w1 ⟨f2, b2, rfl, q2, hb⟩; have c1 := pw_cell_below hb c1; have hT := Lib.hid (Kd.C_below hT.out hb); have hC := Lib.hid (Kd.C_below hC.out hb); have hO := Lib.hid (Kd.C_below hO.out hb); have q1 := q1.below hb; have HB := Lib.hid (below_step HB.out hb); clear hb)
      | (go_at_call_of 70 (Value.slice AT (List.length lT) cT); with_reducible refine Calls.mono (leqq_calls lT lO AT AO cT cO _ hT.out hO.out hcT hcO hTO) ?_; rintro e w1 ⟨f3, b3, rfl, q3, hb⟩; have c1 := pw_cell_below hb c1; have hT := Lib.hid (Kd.C_below hT.out hb); have hC := Lib.hid (Kd.C_below hC.out hb); have hO := Lib.hid (Kd.C_below hO.out hb); have q1 := q1.below hb; have HB := Lib.hid (below_step HB.out hb); have q2 := q2.below hb; clear hb)
      | (go_at_call_of 70 (Value.slice AC (List.length lC) cC); with_reducible refine Calls.mono (leqq_calls lO lC AO AC cO cC _ hO.out hC.out hcO hcC hOC) ?_; rintro e w1 ⟨f4, b4, rfl, q4, hb⟩; have c1 := pw_cell_below hb c1; have hT := Lib.hid (Kd.C_below hT.out hb); have hC := Lib.hid (Kd.C_below hC.out hb); have hO := Lib.hid (Kd.C_below hO.out hb); have q1 := q1.below hb; have HB := Lib.hid (below_step HB.out hb); have q2 := q2.below hb; have q3 := q3.below hb; clear hb)
      | (go_at_call 69; with_reducible refine Calls.mono (all_new [((Value.func (.func 77) #[] #[.pointer (some ⟨w.heap.size, 0, none⟩)]), decide (ownedB lO = [])), ((Value.func (.func f2) #[] b2), plainB lO), ((Value.func (.func f3) #[] b3), leqB lT lO), ((Value.func (.func f4) #[] b4), leqB lO lC)] _ 4 65 _ rfl rfl (by simp) (quest4 q1 q2 q3 q4)) ?_; rintro e w1 ⟨rfl, hb⟩; have c1 := pw_cell_below hb c1; have HB := Lib.hid (below_step HB.out hb); clear hb))
  all_goals (go_wp2_with fail)
  all_goals go_ret
  all_goals exact ⟨by simp, HB.out⟩
end Go.Proofs.Ytkajfadhlgmcjaa
end

section
namespace Go.Proofs.Ytkajfadhlgmcjaa
open Go Go.RowKit Go.Shelf Go.Proofs.YtkajfadhlgmcjaaW.PrintWords Go.Proofs.YtkajfadhlgmcjaaW.PrintLast Go.Proofs.YtkajfadhlgmcjaaW.PrintMore
set_option linter.unusedVariables false
set_option linter.unusedSimpArgs false
attribute [local go_sem] Oper.semAt_some
theorem cats_calls (A B : Option Addr) (n m c d : Nat) (w : World) :
    Calls Try.prog 67 #[.slice A n c, .slice B m d] w fun e w' => e = .returned (.func (.func 91) #[] #[.pointer (some ⟨w.heap.size, 0, none⟩), .pointer (some ⟨w.heap.size + 1, 0, none⟩)]) ∧ w' = (w.alloc (.cells #[.slice A n c] 23)).alloc (.cells #[.slice B m d] 23) := by
  go_enter Try.func67, Try.ntmps67
  go_wp2
  go_ret
  exact ⟨rfl, rfl⟩
set_option maxRecDepth 100000 in
set_option maxHeartbeats 4000000 in
theorem cats_seq (w0 w : World) (hB : Below w0.heap.size w0 w) (ba bb : Nat) (hba : w0.heap.size ≤ ba) (hbb : w0.heap.size ≤ bb) (hne : ba ≠ bb) (la lb : Lab) (Aa Ab : Option Addr) (ca cb : Nat)
    (hA : w.heap[ba]? = some (.cells #[.slice Aa la.length ca] 23 (0, 0))) (hBx : w.heap[bb]? = some (.cells #[.slice Ab lb.length cb] 23 (0, 0)))
    (hCa : kPr.C w0 Aa la.length la) (hCb : kPr.C w0 Ab lb.length lb) (hca : la.length ≤ ca) (hcb : lb.length ≤ cb) (hlen : la.length + lb.length ≤ 1000000) :
    SeqI Try.prog 91 #[.pointer (some ⟨ba, 0, none⟩), .pointer (some ⟨bb, 0, none⟩)] (fun x : Int × (Int × Int) => #[.int .u64 x.1])
      (fun k => k = ba ∨ k = bb) (fun k => k < w0.heap.size ∨ k = ba ∨ k = bb) (mergeB la lb) w := by
  intro l J Jx W hW hJ hJx hY h0
  have hlt1 := blk_lt hA
  have hlt2 := blk_lt hBx
  refine callsIn_of_wp Try.func91 rfl trivial ?_
  simp only [Try.ntmps91, List.size_toArray, List.length_cons, List.length_nil, Nat.reduceAdd, Nat.reduceSub, Array.replicate_succ, Array.replicate_zero, List.push_toArray, List.append_toArray, List.nil_append, List.cons_append]
  gi_wp2
  gi_loopg [] (la.length + lb.length) (fun gk wr => ∃ (ra rb : Lab) (i : Nat) (Ra Rb : Option Addr) (na nb da db : Nat), mergeB ra rb = (mergeB la lb).drop i ∧ i ≤ (mergeB la lb).length ∧ gk = ra.length + rb.length ∧ ra.length + rb.length ≤ 1000000 ∧
      wr.heap[ba]? = some (.cells #[.slice Ra na da] 23 (0, 0)) ∧ wr.heap[bb]? = some (.cells #[.slice Rb nb db] 23 (0, 0)) ∧ na = ra.length ∧ nb = rb.length ∧ ra.length ≤ da ∧ rb.length ≤ db ∧
      kPr.C w0 Ra ra.length ra ∧ kPr.C w0 Rb rb.length rb ∧ J i wr ∧ Below w0.heap.size w0 wr)
  case atStart => exact ⟨la, lb, 0, Aa, Ab, _, _, ca, cb, by simp, by simp, rfl, hlen, (hW.block ba hlt1).trans hA, (hW.block bb hlt2).trans hBx, rfl, rfl, hca, hcb, hCa, hCb, h0, hB.trans (hW.mono hB.size)⟩
  case round =>
    obtain ⟨ra, rb, i, Ra, Rb, na, nb, da, db, hm, hi, rfl, hlen', hba', hbb', hna, hnb, hda, hdb, hRa, hRb, hJi, hBr⟩ := hrel
    cases ra with
    | nil =>
      cases rb with
      | nil =>
        have hnil : i = (mergeB la lb).length := by
          have := congrArg List.length hm
          simp [mergeB] at this
          omega
        subst hna; subst hnb
        have h1 := blk_cell hba' 0
        have h2 := blk_cell hbb' 0
        simp only [List.getElem?_toArray, List.getElem?_cons_zero] at h1 h2
        clear hba' hbb' hm
        gi_wp2
        go_end0
        exact ⟨⟨_, rfl⟩, .inl (hnil ▸ hJi)⟩
      | cons q tb =>
        obtain rfl : na = 0 := by rw [hna]; simp
        obtain ⟨m, hm'⟩ : ∃ m, tb.length = m := ⟨_, rfl⟩
        obtain rfl : nb = m + 1 := by rw [hnb]; simp [hm']
        obtain ⟨bc, rfl, b0, b1⟩ := lab_head hRb
        have cb0 := pw_cell_below hBr b0
        have cb1 := pw_cell_below hBr b1
        have ltb : bc.block < wr.heap.size := World.block_lt_of_cell? wr _ cb0
        have hm1 : m + 1 ≤ 1000000 := by simp [hm'] at hlen'; omega
        have y1 : ((m : Int) + 1 == 0) = false := by rw [beq_eq_false_iff_ne]; omega
        have y2 : decide ((m : Int) + 1 > 0) = true := decide_eq_true (by omega)
        obtain ⟨Rb', hRb'⟩ : ∃ A', (if db = 1 then some bc else (some bc).map (·.add 2)) = A' := ⟨_, rfl⟩
        have cutb : ∀ W, (Instr.slice 23 (.slice (some bc) (m + 1) db) (some (.int .i64 1)) none none).run Try.prog W = .ok (.slice Rb' m (db - 1)) W := fun W => by have := lab_cut (some bc) (m + 1) db (by omega) W; rw [hRb'] at this; simpa using this
        have htb := lab_tail hRb hdb
        rw [hRb'] at htb
        clear hRb'
        obtain ⟨hx, hm2⟩ := drop_cons (show (mergeB la lb).drop i = (q.1, (2, q.2)) :: mergeB [] tb by rw [← hm]; simp [mergeB])
        have h1 := blk_cell hba' 0
        have h2 := blk_cell hbb' 0
        have f1 := blk_frozen hba' 0
        have f2 := blk_frozen hbb' 0
        simp only [List.getElem?_toArray, List.getElem?_cons_zero] at h1 h2
        have lt1 := blk_lt hba'
        have lt2 := blk_lt hbb'
        have hii : i + 1 ≤ (mergeB la lb).length := by have := (List.getElem?_eq_some_iff.1 hx).1; omega
        have HA := Lib.hid hba'
        have HB := Lib.hid hbb'
        have HX := Lib.hid hx
        have HM2 := Lib.hid hm2
        have HM := Lib.hid hm'
        have HY := Lib.hid hY
        have HJ := Lib.hid hJ
        clear hba' hbb' hm hx hm2  hm' hnb hna hY hJ hJx hA hBx
        gi_wp2_with fail
        refine wpIn_wide.2 ?_
        go_big_quiet (fail)
        gi_wp2_with fail
        refine wpIn_wide.2 ?_
        go_big_quiet (fail)
        gi_wp2_with fail
        refine wpIn_wide.2 ?_
        go_region
        gi_wp2_with fail
        refine yield_upon (HY.out i (q.1, (2, q.2)) _ HX.out (HJ.out _ _ _ hJi ?ev)) ?_
        case ev => first | exact (by repeat (first | with_reducible (exact EvB.refl _ _) | with_reducible (apply EvB.alloc) | with_reducible (apply EvB.drew) | with_reducible (apply EvB.drewN) | (with_reducible (refine EvB.set ?_ ?_ _ _); rotate_left; (first | exact Or.inl rfl | exact Or.inr rfl)) | (with_reducible (refine EvB.fresh ?_ ?_ _ _); rotate_left; omega))) | skip
        rintro e W1 (⟨rfl, hJ1, hK1⟩ | ⟨rfl, hJx1⟩)
        · refine ⟨_, rfl, ?_⟩
          gi_wp2_with fail
          have B1 : Below w0.heap.size w0 W1 := Below.trans (show Below w0.heap.size w0 _ from (by repeat (first | with_reducible (exact hBr) | with_reducible (apply below_alloc) | with_reducible (apply below_drew1) | with_reducible (apply pw_below_drewN) | (with_reducible (refine bel_set ?_ ?_ _ _); rotate_left; omega)))) (hK1.to_below (fun k hk => .inl hk) (by have := hBr.size; simp [World.setCell]; omega))
          go_roundg (([] : Lab).length + tb.length)
          case rel => exact ⟨([] : Lab), tb, i + 1, Ra, Rb', 0, m, da, (db - 1), HM2.out.symm, hii, rfl, by simp at hlen' ⊢; omega, hK1.blk (by repeat (first | with_reducible (exact HA.out) | with_reducible (refine blk_alloc ?_ _) | with_reducible (refine blk_drewN ?_ _) | with_reducible (refine blk_drew ?_) | with_reducible (apply blk_set1) | with_reducible (refine blk_far' ?_ (by omega) _ _))) (.inr (.inl rfl)), hK1.blk (by repeat (first | with_reducible (exact HB.out) | with_reducible (refine blk_alloc ?_ _) | with_reducible (refine blk_drewN ?_ _) | with_reducible (refine blk_drew ?_) | with_reducible (apply blk_set1) | with_reducible (refine blk_far' ?_ (by omega) _ _))) (.inr (.inr rfl)), rfl, HM.out.symm, hda, by simp at hdb; omega, hRa, htb, hJ1, B1⟩
          case measure => first | omega | (simp; done) | (simp; omega)
        · refine ⟨_, rfl, ?_⟩
          gi_wp2_with fail
          refine bodyPost_ret (results_none rfl _ _ _) rfl ?_
          exact ⟨⟨_, rfl⟩, .inr ⟨i + 1, hii, hJx1⟩⟩
    | cons p ta =>
      cases rb with
      | nil =>
        obtain ⟨n, hn'⟩ : ∃ n, ta.length = n := ⟨_, rfl⟩
        obtain rfl : na = n + 1 := by rw [hna]; simp [hn']
        obtain ⟨ac, rfl, a0, a1⟩ := lab_head hRa
        have ca0 := pw_cell_below hBr a0
        have ca1 := pw_cell_below hBr a1
        have lta : ac.block < wr.heap.size := World.block_lt_of_cell? wr _ ca0
        have hn1 : n + 1 ≤ 1000000 := by simp [hn'] at hlen'; omega
        have x1 : ((n : Int) + 1 == 0) = false := by rw [beq_eq_false_iff_ne]; omega
        have x2 : decide ((n : Int) + 1 > 0) = true := decide_eq_true (by omega)
        obtain ⟨Ra', hRa'⟩ : ∃ A', (if da = 1 then some ac else (some ac).map (·.add 2)) = A' := ⟨_, rfl⟩
        have cuta : ∀ W, (Instr.slice 23 (.slice (some ac) (n + 1) da) (some (.int .i64 1)) none none).run Try.prog W = .ok (.slice Ra' n (da - 1)) W := fun W => by have := lab_cut (some ac) (n + 1) da (by omega) W; rw [hRa'] at this; simpa using this
        have hta := lab_tail hRa hda
        rw [hRa'] at hta
        clear hRa'
        obtain rfl : nb = 0 := by rw [hnb]; simp
        obtain ⟨hx, hm2⟩ := drop_cons (show (mergeB la lb).drop i = (p.1, (p.2, 2)) :: mergeB ta [] by rw [← hm]; simp [mergeB])
        have h1 := blk_cell hba' 0
        have h2 := blk_cell hbb' 0
        have f1 := blk_frozen hba' 0
        have f2 := blk_frozen hbb' 0
        simp only [List.getElem?_toArray, List.getElem?_cons_zero] at h1 h2
        have lt1 := blk_lt hba'
        have lt2 := blk_lt hbb'
        have hii : i + 1 ≤ (mergeB la lb).length := by have := (List.getElem?_eq_some_iff.1 hx).1; omega
        have HA := Lib.hid hba'
        have HB := Lib.hid hbb'
        have HX := Lib.hid hx
        have HM2 := Lib.hid hm2
        have HN := Lib.hid hn'
        have HY := Lib.hid hY
        have HJ := Lib.hid hJ
        clear hba' hbb' hm hx hm2 hn'  hnb hna hY hJ hJx hA hBx
        gi_wp2_with fail
        refine wpIn_wide.2 ?_
        go_big_quiet (fail)
        gi_wp2_with fail
        refine wpIn_wide.2 ?_
        go_big_quiet (fail)
        gi_wp2_with fail
        refine wpIn_wide.2 ?_
        go_region
        gi_wp2_with fail
        refine yield_upon (HY.out i (p.1, (p.2, 2)) _ HX.out (HJ.out _ _ _ hJi ?ev)) ?_
        case ev => first | exact (by repeat (first | with_reducible (exact EvB.refl _ _) | with_reducible (apply EvB.alloc) | with_reducible (apply EvB.drew) | with_reducible (apply EvB.drewN) | (with_reducible (refine EvB.set ?_ ?_ _ _); rotate_left; (first | exact Or.inl rfl | exact Or.inr rfl)) | (with_reducible (refine EvB.fresh ?_ ?_ _ _); rotate_left; omega))) | skip
        rintro e W1 (⟨rfl, hJ1, hK1⟩ | ⟨rfl, hJx1⟩)
        · refine ⟨_, rfl, ?_⟩
          gi_wp2_with fail
          have B1 : Below w0.heap.size w0 W1 := Below.trans (show Below w0.heap.size w0 _ from (by repeat (first | with_reducible (exact hBr) | with_reducible (apply below_alloc) | with_reducible (apply below_drew1) | with_reducible (apply pw_below_drewN) | (with_reducible (refine bel_set ?_ ?_ _ _); rotate_left; omega)))) (hK1.to_below (fun k hk => .inl hk) (by have := hBr.size; simp [World.setCell]; omega))
          go_roundg (ta.length + ([] : Lab).length)
          case rel => exact ⟨ta, ([] : Lab), i + 1, Ra', Rb, n, 0, (da - 1), db, HM2.out.symm, hii, rfl, by simp at hlen' ⊢; omega, hK1.blk (by repeat (first | with_reducible (exact HA.out) | with_reducible (refine blk_alloc ?_ _) | with_reducible (refine blk_drewN ?_ _) | with_reducible (refine blk_drew ?_) | with_reducible (apply blk_set1) | with_reducible (refine blk_far' ?_ (by omega) _ _))) (.inr (.inl rfl)), hK1.blk (by repeat (first | with_reducible (exact HB.out) | with_reducible (refine blk_alloc ?_ _) | with_reducible (refine blk_drewN ?_ _) | with_reducible (refine blk_drew ?_) | with_reducible (apply blk_set1) | with_reducible (refine blk_far' ?_ (by omega) _ _))) (.inr (.inr rfl)), HN.out.symm, rfl, by simp at hda; omega, hdb, hta, hRb, hJ1, B1⟩
          case measure => first | omega | (simp; done) | (simp; omega)
        · refine ⟨_, rfl, ?_⟩
          gi_wp2_with fail
          refine bodyPost_ret (results_none rfl _ _ _) rfl ?_
          exact ⟨⟨_, rfl⟩, .inr ⟨i + 1, hii, hJx1⟩⟩
      | cons q tb =>
        by_cases hpq : p.1 < q.1
        · obtain ⟨n, hn'⟩ : ∃ n, ta.length = n := ⟨_, rfl⟩
          obtain rfl : na = n + 1 := by rw [hna]; simp [hn']
          obtain ⟨ac, rfl, a0, a1⟩ := lab_head hRa
          have ca0 := pw_cell_below hBr a0
          have ca1 := pw_cell_below hBr a1
          have lta : ac.block < wr.heap.size := World.block_lt_of_cell? wr _ ca0
          have hn1 : n + 1 ≤ 1000000 := by simp [hn'] at hlen'; omega
          have x1 : ((n : Int) + 1 == 0) = false := by rw [beq_eq_false_iff_ne]; omega
          have x2 : decide ((n : Int) + 1 > 0) = true := decide_eq_true (by omega)
          obtain ⟨Ra', hRa'⟩ : ∃ A', (if da = 1 then some ac else (some ac).map (·.add 2)) = A' := ⟨_, rfl⟩
          have cuta : ∀ W, (Instr.slice 23 (.slice (some ac) (n + 1) da) (some (.int .i64 1)) none none).run Try.prog W = .ok (.slice Ra' n (da - 1)) W := fun W => by have := lab_cut (some ac) (n + 1) da (by omega) W; rw [hRa'] at this; simpa using this
          have hta := lab_tail hRa hda
          rw [hRa'] at hta
          clear hRa'
          obtain ⟨m, hm'⟩ : ∃ m, tb.length = m := ⟨_, rfl⟩
          obtain rfl : nb = m + 1 := by rw [hnb]; simp [hm']
          obtain ⟨bc, rfl, b0, b1⟩ := lab_head hRb
          have cb0 := pw_cell_below hBr b0
          have cb1 := pw_cell_below hBr b1
          have ltb : bc.block < wr.heap.size := World.block_lt_of_cell? wr _ cb0
          have hm1 : m + 1 ≤ 1000000 := by simp [hm'] at hlen'; omega
          have y1 : ((m : Int) + 1 == 0) = false := by rw [beq_eq_false_iff_ne]; omega
          have y2 : decide ((m : Int) + 1 > 0) = true := decide_eq_true (by omega)
          have z1 : decide ((n : Int) + 1 + ((m : Int) + 1) > 0) = true := decide_eq_true (by omega)
          have g1 : decide (p.1 < q.1) = true := decide_eq_true hpq
          have g2 : decide (p.1 ≤ q.1) = true := decide_eq_true (by omega)
          have g3 : decide (q.1 < p.1) = false := decide_eq_false (by omega)
          have g4 : decide (q.1 ≤ p.1) = false := decide_eq_false (by omega)
          have g5 : decide (p.1 = q.1) = false := decide_eq_false (by omega)
          have g6 : (p.1 == q.1) = false := by rw [beq_eq_false_iff_ne]; omega
          obtain ⟨hx, hm2⟩ := drop_cons (show (mergeB la lb).drop i = (p.1, (p.2, 2)) :: mergeB ta (q :: tb) by rw [← hm]; rw [mergeB]; simp [hpq])
          have h1 := blk_cell hba' 0
          have h2 := blk_cell hbb' 0
          have f1 := blk_frozen hba' 0
          have f2 := blk_frozen hbb' 0
          simp only [List.getElem?_toArray, List.getElem?_cons_zero] at h1 h2
          have lt1 := blk_lt hba'
          have lt2 := blk_lt hbb'
          have hii : i + 1 ≤ (mergeB la lb).length := by have := (List.getElem?_eq_some_iff.1 hx).1; omega
          have HA := Lib.hid hba'
          have HB := Lib.hid hbb'
          have HX := Lib.hid hx
          have HM2 := Lib.hid hm2
          have HN := Lib.hid hn'
          have HM := Lib.hid hm'
          have HY := Lib.hid hY
          have HJ := Lib.hid hJ
          clear hba' hbb' hm hx hm2 hn' hm' hnb hna hY hJ hJx hA hBx
          gi_wp2_with fail
          refine wpIn_wide.2 ?_
          go_big_quiet (fail)
          gi_wp2_with fail
          refine wpIn_wide.2 ?_
          go_big_quiet (fail)
          gi_wp2_with fail
          refine wpIn_wide.2 ?_
          go_region
          gi_wp2_with fail
          refine yield_upon (HY.out i (p.1, (p.2, 2)) _ HX.out (HJ.out _ _ _ hJi ?ev)) ?_
          case ev => first | exact (by repeat (first | with_reducible (exact EvB.refl _ _) | with_reducible (apply EvB.alloc) | with_reducible (apply EvB.drew) | with_reducible (apply EvB.drewN) | (with_reducible (refine EvB.set ?_ ?_ _ _); rotate_left; (first | exact Or.inl rfl | exact Or.inr rfl)) | (with_reducible (refine EvB.fresh ?_ ?_ _ _); rotate_left; omega))) | skip
          rintro e W1 (⟨rfl, hJ1, hK1⟩ | ⟨rfl, hJx1⟩)
          · refine ⟨_, rfl, ?_⟩
            gi_wp2_with fail
            have B1 : Below w0.heap.size w0 W1 := Below.trans (show Below w0.heap.size w0 _ from (by repeat (first | with_reducible (exact hBr) | with_reducible (apply below_alloc) | with_reducible (apply below_drew1) | with_reducible (apply pw_below_drewN) | (with_reducible (refine bel_set ?_ ?_ _ _); rotate_left; omega)))) (hK1.to_below (fun k hk => .inl hk) (by have := hBr.size; simp [World.setCell]; omega))
            go_roundg (ta.length + (q :: tb).length)
            case rel => exact ⟨ta, (q :: tb), i + 1, Ra', (some bc), n, (m + 1), (da - 1), db, HM2.out.symm, hii, rfl, by simp at hlen' ⊢; omega, hK1.blk (by repeat (first | with_reducible (exact HA.out) | with_reducible (refine blk_alloc ?_ _) | with_reducible (refine blk_drewN ?_ _) | with_reducible (refine blk_drew ?_) | with_reducible (apply blk_set1) | with_reducible (refine blk_far' ?_ (by omega) _ _))) (.inr (.inl rfl)), hK1.blk (by repeat (first | with_reducible (exact HB.out) | with_reducible (refine blk_alloc ?_ _) | with_reducible (refine blk_drewN ?_ _) | with_reducible (refine blk_drew ?_) | with_reducible (apply blk_set1) | with_reducible (refine blk_far' ?_ (by omega) _ _))) (.inr (.inr rfl)), HN.out.symm, by simp; exact HM.out.symm, by simp at hda; omega, hdb, hta, hRb, hJ1, B1⟩
            case measure => first | omega | (simp; done) | (simp; omega)
          · refine ⟨_, rfl, ?_⟩
            gi_wp2_with fail
            refine bodyPost_ret (results_none rfl _ _ _) rfl ?_
            exact ⟨⟨_, rfl⟩, .inr ⟨i + 1, hii, hJx1⟩⟩
        by_cases hqp : q.1 < p.1
        · obtain ⟨n, hn'⟩ : ∃ n, ta.length = n := ⟨_, rfl⟩
          obtain rfl : na = n + 1 := by rw [hna]; simp [hn']
          obtain ⟨ac, rfl, a0, a1⟩ := lab_head hRa
          have ca0 := pw_cell_below hBr a0
          have ca1 := pw_cell_below hBr a1
          have lta : ac.block < wr.heap.size := World.block_lt_of_cell? wr _ ca0
          have hn1 : n + 1 ≤ 1000000 := by simp [hn'] at hlen'; omega
          have x1 : ((n : Int) + 1 == 0) = false := by rw [beq_eq_false_iff_ne]; omega
          have x2 : decide ((n : Int) + 1 > 0) = true := decide_eq_true (by omega)
          obtain ⟨m, hm'⟩ : ∃ m, tb.length = m := ⟨_, rfl⟩
          obtain rfl : nb = m + 1 := by rw [hnb]; simp [hm']
          obtain ⟨bc, rfl, b0, b1⟩ := lab_head hRb
          have cb0 := pw_cell_below hBr b0
          have cb1 := pw_cell_below hBr b1
          have ltb : bc.block < wr.heap.size := World.block_lt_of_cell? wr _ cb0
          have hm1 : m + 1 ≤ 1000000 := by simp [hm'] at hlen'; omega
          have y1 : ((m : Int) + 1 == 0) = false := by rw [beq_eq_false_iff_ne]; omega
          have y2 : decide ((m : Int) + 1 > 0) = true := decide_eq_true (by omega)
          obtain ⟨Rb', hRb'⟩ : ∃ A', (if db = 1 then some bc else (some bc).map (·.add 2)) = A' := ⟨_, rfl⟩
          have cutb : ∀ W, (Instr.slice 23 (.slice (some bc) (m + 1) db) (some (.int .i64 1)) none none).run Try.prog W = .ok (.slice Rb' m (db - 1)) W := fun W => by have := lab_cut (some bc) (m + 1) db (by omega) W; rw [hRb'] at this; simpa using this
          have htb := lab_tail hRb hdb
          rw [hRb'] at htb
          clear hRb'
          have z1 : decide ((n : Int) + 1 + ((m : Int) + 1) > 0) = true := decide_eq_true (by omega)
          have g1 : decide (q.1 < p.1) = true := decide_eq_true hqp
          have g2 : decide (q.1 ≤ p.1) = true := decide_eq_true (by omega)
          have g3 : decide (p.1 < q.1) = false := decide_eq_false (by omega)
          have g4 : decide (p.1 ≤ q.1) = false := decide_eq_false (by omega)
          have g5 : decide (p.1 = q.1) = false := decide_eq_false (by omega)
          have g6 : (p.1 == q.1) = false := by rw [beq_eq_false_iff_ne]; omega
          obtain ⟨hx, hm2⟩ := drop_cons (show (mergeB la lb).drop i = (q.1, (2, q.2)) :: mergeB (p :: ta) tb by rw [← hm]; rw [mergeB]; simp [hpq, hqp])
          have h1 := blk_cell hba' 0
          have h2 := blk_cell hbb' 0
          have f1 := blk_frozen hba' 0
          have f2 := blk_frozen hbb' 0
          simp only [List.getElem?_toArray, List.getElem?_cons_zero] at h1 h2
          have lt1 := blk_lt hba'
          have lt2 := blk_lt hbb'
          have hii : i + 1 ≤ (mergeB la lb).length := by have := (List.getElem?_eq_some_iff.1 hx).1; omega
          have HA := Lib.hid hba'
          have HB := Lib.hid hbb'
          have HX := Lib.hid hx
          have HM2 := Lib.hid hm2
          have HN := Lib.hid hn'
          have HM := Lib.hid hm'
          have HY := Lib.hid hY
          have HJ := Lib.hid hJ
          clear hba' hbb' hm hx hm2 hn' hm' hnb hna hY hJ hJx hA hBx
          gi_wp2_with fail
          refine wpIn_wide.2 ?_
          go_big_quiet (fail)
          gi_wp2_with fail
          refine wpIn_wide.2 ?_
          go_big_quiet (fail)
          gi_wp2_with fail
          refine wpIn_wide.2 ?_
          go_region
          gi_wp2_with fail
          refine yield_upon (HY.out i (q.1, (2, q.2)) _ HX.out (HJ.out _ _ _ hJi ?ev)) ?_
          case ev => first | exact (by repeat (first | with_reducible (exact EvB.refl _ _) | with_reducible (apply EvB.alloc) | with_reducible (apply EvB.drew) | with_reducible (apply EvB.drewN) | (with_reducible (refine EvB.set ?_ ?_ _ _); rotate_left; (first | exact Or.inl rfl | exact Or.inr rfl)) | (with_reducible (refine EvB.fresh ?_ ?_ _ _); rotate_left; omega))) | skip
          rintro e W1 (⟨rfl, hJ1, hK1⟩ | ⟨rfl, hJx1⟩)
          · refine ⟨_, rfl, ?_⟩
            gi_wp2_with fail
            have B1 : Below w0.heap.size w0 W1 := Below.trans (show Below w0.heap.size w0 _ from (by repeat (first | with_reducible (exact hBr) | with_reducible (apply below_alloc) | with_reducible (apply below_drew1) | with_reducible (apply pw_below_drewN) | (with_reducible (refine bel_set ?_ ?_ _ _); rotate_left; omega)))) (hK1.to_below (fun k hk => .inl hk) (by have := hBr.size; simp [World.setCell]; omega))
            go_roundg ((p :: ta).length + tb.length)
            case rel => exact ⟨(p :: ta), tb, i + 1, (some ac), Rb', (n + 1), m, da, (db - 1), HM2.out.symm, hii, rfl, by simp at hlen' ⊢; omega, hK1.blk (by repeat (first | with_reducible (exact HA.out) | with_reducible (refine blk_alloc ?_ _) | with_reducible (refine blk_drewN ?_ _) | with_reducible (refine blk_drew ?_) | with_reducible (apply blk_set1) | with_reducible (refine blk_far' ?_ (by omega) _ _))) (.inr (.inl rfl)), hK1.blk (by repeat (first | with_reducible (exact HB.out) | with_reducible (refine blk_alloc ?_ _) | with_reducible (refine blk_drewN ?_ _) | with_reducible (refine blk_drew ?_) | with_reducible (apply blk_set1) | with_reducible (refine blk_far' ?_ (by omega) _ _))) (.inr (.inr rfl)), by simp; exact HN.out.symm, HM.out.symm, hda, by simp at hdb; omega, hRa, htb, hJ1, B1⟩
            case measure => first | omega | (simp; done) | (simp; omega)
          · refine ⟨_, rfl, ?_⟩
            gi_wp2_with fail
            refine bodyPost_ret (results_none rfl _ _ _) rfl ?_
            exact ⟨⟨_, rfl⟩, .inr ⟨i + 1, hii, hJx1⟩⟩
        obtain ⟨n, hn'⟩ : ∃ n, ta.length = n := ⟨_, rfl⟩
        obtain rfl : na = n + 1 := by rw [hna]; simp [hn']
        obtain ⟨ac, rfl, a0, a1⟩ := lab_head hRa
        have ca0 := pw_cell_below hBr a0
        have ca1 := pw_cell_below hBr a1
        have lta : ac.block < wr.heap.size := World.block_lt_of_cell? wr _ ca0
        have hn1 : n + 1 ≤ 1000000 := by simp [hn'] at hlen'; omega
        have x1 : ((n : Int) + 1 == 0) = false := by rw [beq_eq_false_iff_ne]; omega
        have x2 : decide ((n : Int) + 1 > 0) = true := decide_eq_true (by omega)
        obtain ⟨Ra', hRa'⟩ : ∃ A', (if da = 1 then some ac else (some ac).map (·.add 2)) = A' := ⟨_, rfl⟩
        have cuta : ∀ W, (Instr.slice 23 (.slice (some ac) (n + 1) da) (some (.int .i64 1)) none none).run Try.prog W = .ok (.slice Ra' n (da - 1)) W := fun W => by have := lab_cut (some ac) (n + 1) da (by omega) W; rw [hRa'] at this; simpa using this
        have hta := lab_tail hRa hda
        rw [hRa'] at hta
        clear hRa'
        obtain ⟨m, hm'⟩ : ∃ m, tb.length = m := ⟨_, rfl⟩
        obtain rfl : nb = m + 1 := by rw [hnb]; simp [hm']
        obtain ⟨bc, rfl, b0, b1⟩ := lab_head hRb
        have cb0 := pw_cell_below hBr b0
        have cb1 := pw_cell_below hBr b1
        have ltb : bc.block < wr.heap.size := World.block_lt_of_cell? wr _ cb0
        have hm1 : m + 1 ≤ 1000000 := by simp [hm'] at hlen'; omega
        have y1 : ((m : Int) + 1 == 0) = false := by rw [beq_eq_false_iff_ne]; omega
        have y2 : decide ((m : Int) + 1 > 0) = true := decide_eq_true (by omega)
        obtain ⟨Rb', hRb'⟩ : ∃ A', (if db = 1 then some bc else (some bc).map (·.add 2)) = A' := ⟨_, rfl⟩
        have cutb : ∀ W, (Instr.slice 23 (.slice (some bc) (m + 1) db) (some (.int .i64 1)) none none).run Try.prog W = .ok (.slice Rb' m (db - 1)) W := fun W => by have := lab_cut (some bc) (m + 1) db (by omega) W; rw [hRb'] at this; simpa using this
        have htb := lab_tail hRb hdb
        rw [hRb'] at htb
        clear hRb'
        have z1 : decide ((n : Int) + 1 + ((m : Int) + 1) > 0) = true := decide_eq_true (by omega)
        have lb0 : bc.block < w0.heap.size := World.block_lt_of_cell? w0 _ b0
        have nb1 : bc.block ≠ ba := by omega
        have nb2 : ba ≠ bc.block := by omega
        have nb3 : bc.block ≠ bb := by omega
        have hpq3 : p.1 = q.1 := by omega
        have g1 : decide (p.1 < q.1) = false := decide_eq_false (by omega)
        have g2 : decide (p.1 ≤ q.1) = true := decide_eq_true (by omega)
        have g3 : decide (q.1 < p.1) = false := decide_eq_false (by omega)
        have g4 : decide (q.1 ≤ p.1) = true := decide_eq_true (by omega)
        have g5 : decide (p.1 = q.1) = true := decide_eq_true (by omega)
        have g6 : (p.1 == q.1) = true := by rw [beq_iff_eq]; omega
        obtain ⟨hx, hm2⟩ := drop_cons (show (mergeB la lb).drop i = (q.1, (p.2, q.2)) :: mergeB ta tb by rw [← hm]; rw [mergeB]; simp [hpq, hqp])
        have h1 := blk_cell hba' 0
        have h2 := blk_cell hbb' 0
        have f1 := blk_frozen hba' 0
        have f2 := blk_frozen hbb' 0
        simp only [List.getElem?_toArray, List.getElem?_cons_zero] at h1 h2
        have lt1 := blk_lt hba'
        have lt2 := blk_lt hbb'
        have hii : i + 1 ≤ (mergeB la lb).length := by have := (List.getElem?_eq_some_iff.1 hx).1; omega
        have HA := Lib.hid hba'
        have HB := Lib.hid hbb'
        have HX := Lib.hid hx
        have HM2 := Lib.hid hm2
        have HN := Lib.hid hn'
        have HM := Lib.hid hm'
        have HY := Lib.hid hY
        have HJ := Lib.hid hJ
        clear hba' hbb' hm hx hm2 hn' hm' hnb hna hY hJ hJx hA hBx
        gi_wp2_with fail
        refine wpIn_wide.2 ?_
        go_big_quiet (fail)
        gi_wp2_with fail
        refine wpIn_wide.2 ?_
        go_big_quiet (fail)
        gi_wp2_with fail
        refine wpIn_wide.2 ?_
        go_region
        gi_wp2_with fail
        refine wpIn_wide.2 ?_
        refine w_abs (p := fun W => Code.wp _ _ _ _ W) _ (fun W2 hW2 => ?_)
        have H2 : W2.heap[bb]? = some (.cells #[.slice (some bc) (m + 1) db] 23 (0, 0)) := by rw [hW2]; exact (by repeat (first | with_reducible (exact HB.out) | with_reducible (refine blk_alloc ?_ _) | with_reducible (refine blk_drewN ?_ _) | with_reducible (refine blk_drew ?_) | with_reducible (apply blk_set1) | with_reducible (refine blk_far' ?_ (by omega) _ _)))
        have B2 : Below w0.heap.size w0 W2 := by rw [hW2]; exact (by repeat (first | with_reducible (exact hBr) | with_reducible (apply below_alloc) | with_reducible (apply below_drew1) | with_reducible (apply pw_below_drewN) | (with_reducible (refine bel_set ?_ ?_ _ _); rotate_left; omega)))
        have c1 := blk_cell H2 0
        have c2 := blk_frozen H2 0
        have c5 := pw_cell_below B2 b0
        have c6 := pw_cell_below B2 b1
        have c7 := blk_lt H2
        simp only [List.getElem?_toArray, List.getElem?_cons_zero] at c1
        have HW2 := Lib.hid hW2
        have HH2 := Lib.hid H2
        have HB2 := Lib.hid B2
        clear hW2 H2 B2 h1 h2 f1 f2 ca0 ca1 cb0 cb1
        go_region
        gi_wp2_with fail
        obtain rfl := HW2.out
        refine yield_upon (HY.out i (q.1, (p.2, q.2)) _ HX.out (HJ.out _ _ _ hJi ?ev)) ?_
        case ev => first | exact (by repeat (first | with_reducible (exact EvB.refl _ _) | with_reducible (apply EvB.alloc) | with_reducible (apply EvB.drew) | with_reducible (apply EvB.drewN) | (with_reducible (refine EvB.set ?_ ?_ _ _); rotate_left; (first | exact Or.inl rfl | exact Or.inr rfl)) | (with_reducible (refine EvB.fresh ?_ ?_ _ _); rotate_left; omega))) | skip
        rintro e W1 (⟨rfl, hJ1, hK1⟩ | ⟨rfl, hJx1⟩)
        · refine ⟨_, rfl, ?_⟩
          gi_wp2_with fail
          have B1 : Below w0.heap.size w0 W1 := Below.trans (show Below w0.heap.size w0 _ from (by repeat (first | with_reducible (exact hBr) | with_reducible (apply below_alloc) | with_reducible (apply below_drew1) | with_reducible (apply pw_below_drewN) | (with_reducible (refine bel_set ?_ ?_ _ _); rotate_left; omega)))) (hK1.to_below (fun k hk => .inl hk) (by have := hBr.size; simp [World.setCell]; omega))
          go_roundg (ta.length + tb.length)
          case rel => exact ⟨ta, tb, i + 1, Ra', Rb', n, m, (da - 1), (db - 1), HM2.out.symm, hii, rfl, by simp at hlen' ⊢; omega, hK1.blk (by repeat (first | with_reducible (exact HA.out) | with_reducible (refine blk_alloc ?_ _) | with_reducible (refine blk_drewN ?_ _) | with_reducible (refine blk_drew ?_) | with_reducible (apply blk_set1) | with_reducible (refine blk_far' ?_ (by omega) _ _))) (.inr (.inl rfl)), hK1.blk (by repeat (first | with_reducible (exact HB.out) | with_reducible (refine blk_alloc ?_ _) | with_reducible (refine blk_drewN ?_ _) | with_reducible (refine blk_drew ?_) | with_reducible (apply blk_set1) | with_reducible (refine blk_far' ?_ (by omega) _ _))) (.inr (.inr rfl)), HN.out.symm, HM.out.symm, by simp at hda; omega, by simp at hdb; omega, hta, htb, hJ1, B1⟩
          case measure => first | omega | (simp; done) | (simp; omega)
        · refine ⟨_, rfl, ?_⟩
          gi_wp2_with fail
          refine bodyPost_ret (results_none rfl _ _ _) rfl ?_
          exact ⟨⟨_, rfl⟩, .inr ⟨i + 1, hii, hJx1⟩⟩
end Go.Proofs.Ytkajfadhlgmcjaa
end

section
namespace Go.Proofs.Ytkajfadhlgmcjaa
open Go Go.RowKit Go.Shelf Go.Proofs.YtkajfadhlgmcjaaW.PrintWords Go.Proofs.YtkajfadhlgmcjaaW.PrintLast Go.Proofs.YtkajfadhlgmcjaaW.PrintMore
set_option linter.unusedVariables false
set_option linter.unusedSimpArgs false
attribute [local go_sem] Oper.semAt_some ov_cell ov_frozen
/-- In a round: a region that draws its order, and reads and calls what makes memory alone. -/
theorem region_round_ov {l id : Nat} {P : Program} {ops : List Oper} {Q : Exit → Act → World → Prop} {a : Act} {w : World} (hm : P.follows .mixedOrders = true) (hB : Region.lexB .any ops.toArray = true)
    (hd : ops.toArray.all (fun o => match o.op with | .defer _ => false | _ => true) = true) (hL : ¬ LetsOut Q)
    (h : wpQuiet P ops.toArray (fun w' => ∃ x, w' = ov w x) (fun a' => ∀ w', Below w.heap.size w w' → Q .normal a' w') ops a) : (Code.region id ops.toArray true).wpIn (Fence.wide.inRound l) 0 P Q a w := by
  have hq : ∀ {a : Act} {l' : List Oper}, wpQuiet P ops.toArray (fun w' => ∃ x, w' = ov w x) (fun a' => ∀ w', Below w.heap.size w w' → Q .normal a' w') l' a →
      wpQuiet P ops.toArray (fun w' => ∃ x, w' = ov w x) (fun a' => ∀ w', (∃ x, w' = ov w x) → Q .normal a' w') l' a := by
    intro a l'
    induction l' generalizing a with
    | nil => rintro h w' ⟨x, rfl⟩; exact h _ (ov_below w x)
    | cons o l' ih =>
      intro h
      unfold wpQuiet at h ⊢
      split
      · rename_i hw; simp only [hw, if_true] at h; exact Oper.quiet_mono (fun _ => ih) h
      · rename_i hw; simp only [hw] at h; exact ih h
  refine region_round_draw hd hL fun t => ?_
  simp only [Region.schedule, hm, Bool.true_or, if_true]
  simp only [Region.lexB, Bool.and_eq_true] at hB
  refine wpAny_sound ops.toArray.size t _ a _ (wpAny_of_quiet (C := fun w' => ∃ x, w' = ov w x) (Q := fun a' => ∀ w', (∃ x, w' = ov w x) → Q .normal a' w') (fun _ w' hw' h => h w' hw') _ _ _ _ ⟨w.drew, (ov_of (Below.refl _ _).drew).symm⟩ ?_)
  have := wpAnyQ_lex (C := fun w' => ∃ x, w' = ov w x) (md := .any) hB.1 ops.toArray.toList 0 (Array.replicate ops.toArray.size false) a (by simp) (by simpa using hB.2) (by simpa using hq h)
  simpa using this
/-- The categories by which up passes watch. -/
def hidX (u v : Lab) (xs : List (Int × (Int × Int))) : List Int := xs.filterMap (fun x => if getL u x.1 > getL v x.1 then some x.1 else none)
def hidesB (a v : Lab) : List Int := hidX (raiseB a) v (mergeB (raiseB a) v)
theorem hidX_snoc (u v : Lab) (xs : List (Int × (Int × Int))) (k : Nat) (x : Int × (Int × Int)) (hx : xs[k]? = some x) :
    hidX u v (xs.take (k + 1)) = hidX u v (xs.take k) ++ (if getL u x.1 > getL v x.1 then [x.1] else []) := by
  unfold hidX
  rw [List.take_add_one, hx, List.filterMap_append]
  by_cases h : getL u x.1 > getL v x.1 <;> simp [h]
theorem hidX_len (u v : Lab) (xs : List (Int × (Int × Int))) : (hidX u v xs).length ≤ xs.length := List.length_filterMap_le _ _
set_option maxRecDepth 100000 in
set_option maxHeartbeats 2000000 in
theorem hides_calls (lT : Lab) (AT : Option Addr) (cT : Nat) (lV : Lab) (AV : Option Addr) (cV : Nat) (w : World) (hT : kPr.C w AT lT.length lT) (hcT : lT.length ≤ cT) (hlT : lT.length ≤ 1000) (hsT : SortedP lT) (hV : kPr.C w AV lV.length lV) (hcV : lV.length ≤ cV) (hlV : lV.length ≤ 1000) (hsV : SortedP lV) :
    Calls Try.prog 28 #[.slice AT lT.length cT, .slice AV lV.length cV] w fun e w' => ∃ v, e = .returned v ∧ Kd.R (Kd.int .u64) 30 w' w.heap.size (fun _ => True) v (hidesB lT lV) ∧ Below w.heap.size w w' := by
  obtain ⟨wb, hwb⟩ : ∃ wb, w.alloc (.cells #[.slice AV lV.length cV] 23) = wb := ⟨_, rfl⟩
  have Bb : Below w.heap.size w wb := by rw [← hwb]; exact (by repeat (first | with_reducible (exact Below.refl _ _) | with_reducible (apply below_alloc) | with_reducible (apply below_drew1) | with_reducible (apply pw_below_drewN) | (with_reducible (refine bel_set ?_ ?_ _ _); rotate_left; omega)))
  have gb : wb.heap[w.heap.size]? = some (.cells #[.slice AV lV.length cV] 23 (0, 0)) := by rw [← hwb]; exact blk_new _ _
  have hzb : w.heap.size < wb.heap.size := by rw [← hwb]; simp
  have hT := Lib.hid (Kd.C_below hT Bb)
  have hV := Lib.hid (Kd.C_below hV Bb)
  have HST := Lib.hid hsT
  have HSV := Lib.hid hsV
  have Bb := Lib.hid Bb
  have gb := Lib.hid gb
  clear hsT hsV
  refine (callsIn_wide (n := 0)).1 (callsIn_of_wp_marks Try.func28 rfl trivial ?_ rfl)
  simp only [Try.ntmps28, List.size_toArray, List.length_cons, List.length_nil, Nat.reduceAdd, Nat.reduceSub, Array.replicate_succ, Array.replicate_zero, List.push_toArray, List.append_toArray, List.nil_append, List.cons_append]
  gi_wp2_with fail
  refine ⟨trivial, rfl, ?_⟩
  with_reducible refine CallsIn.mono (callsIn_wide.2 (raiseC lT AT cT _ hT.out hcT (by omega))) ?_
  rintro e w1 ⟨v_, rfl, hr, hb⟩
  obtain ⟨AU, cU, rfl, hcU, hmU⟩ := Kd.R_reads hr
  obtain ⟨lU, hlU⟩ : ∃ l_, l_ = raiseB lT := ⟨_, rfl⟩
  have hlU1 : lU.length ≤ 1000 := by rw [hlU]; exact Nat.le_trans (raiseB_len _) hlT
  have HSU : Hid (SortedP lU) := Lib.hid (by rw [hlU]; exact foldB_sorted _ HST.out nil_sorted)
  rw [← hlU] at hcU hmU ⊢
  have HU := Lib.hid hmU
  have hV1 := Lib.hid (Kd.C_below hV.out hb)
  have gb1 := Lib.hid (blk_below gb.out hb)
  have HB1 := Lib.hid (below_step Bb.out hb)
  have hz1 := hb.size
  have HE := Lib.hid hlU
  clear hmU hlU hr hb
  have hzz : w.heap.size < w1.heap.size := by omega
  have c1 := blk_cell gb1.out 0
  simp only [List.getElem?_toArray, List.getElem?_cons_zero] at c1
  clear hwb hzb
  gi_wp2_with fail
  refine ⟨trivial, rfl, ?_⟩
  with_reducible refine CallsIn.mono (callsIn_wide.2 (cats_calls _ _ _ _ _ _ _)) ?_
  rintro e w' ⟨rfl, rfl⟩
  obtain ⟨W0, hW0⟩ : ∃ W0, (((w1.alloc (Obj.cells #[Value.slice AU (List.length lU) cU] 23)).alloc (Obj.cells #[Value.slice none 0 0] 34)).alloc (Obj.cells #[Value.slice AU (List.length lU) cU] 23)).alloc (Obj.cells #[Value.slice AV (List.length lV) cV] 23) = W0 := ⟨_, rfl⟩
  gi_wp2_with fail
  have hz0 : W0.heap.size = w1.heap.size + 4 := by rw [← hW0]; simp
  have hu0 : W0.heap[w1.heap.size]? = some (.cells #[.slice AU lU.length cU] 23 (0, 0)) := by rw [← hW0]; exact blk_alloc (blk_alloc (blk_alloc (blk_new _ _) _) _) _
  have hr0 : W0.heap[w1.heap.size + 1]? = some (.cells #[.slice none 0 0] 34 (0, 0)) := by rw [← hW0]; exact blk_alloc (blk_alloc (blk_at (by simp)) _) _
  have ha0 : W0.heap[w1.heap.size + 1 + 1]? = some (.cells #[.slice AU lU.length cU] 23 (0, 0)) := by rw [← hW0]; exact blk_alloc (blk_at (by simp)) _
  have hb0 : W0.heap[w1.heap.size + 1 + 1 + 1]? = some (.cells #[.slice AV lV.length cV] 23 (0, 0)) := by rw [← hW0]; exact blk_at (by simp)
  have hB0 : Below w1.heap.size w1 W0 := by rw [← hW0]; exact (by repeat (first | with_reducible (exact Below.refl _ _) | with_reducible (apply below_alloc) | with_reducible (apply below_drew1) | with_reducible (apply pw_below_drewN) | (with_reducible (refine bel_set ?_ ?_ _ _); rotate_left; omega)))
  clear hW0
  refine range_law (gf := 91) (lb := #[.pointer (some ⟨w1.heap.size + 1 + 1, 0, none⟩), .pointer (some ⟨w1.heap.size + 1 + 1 + 1, 0, none⟩)]) rfl (enters_of Try.func91 (by kernel_rfl) rfl)
    (cats_seq w1 W0 hB0 (w1.heap.size + 1 + 1) (w1.heap.size + 1 + 1 + 1) (by omega) (by omega) (by omega) lU lV AU AV cU cV ha0 hb0 HU.out hV1.out hcU hcV (by omega)) (fun _ => rfl) (fun k h => by omega) (fun k h => by omega)
    (fun k W => W.heap[w1.heap.size]? = some (.cells #[.slice AU lU.length cU] 23 (0, 0)) ∧ (∃ v, W.heap[w1.heap.size + 1]? = some (.cells #[v] 34 (0, 0)) ∧ Kd.R (Kd.int .u64) 30 W w1.heap.size (fun g => W0.heap.size + 2 ≤ g) v (hidX lU lV ((mergeB lU lV).take k))) ∧ Below w1.heap.size w1 W)
    (fun _ _ _ => False) ?hI (fun _ _ _ _ h _ => h.elim) ⟨hu0, ⟨_, hr0, Kd.R_nil _ _ _ _ _⟩, hB0⟩ ?round ?done (fun _ _ _ _ h => h.elim)
  case hI =>
    rintro k A B ⟨h1, ⟨v, h2, h3⟩, h4⟩ he
    have z1 := blk_lt h2
    exact ⟨he.blk h1 (by simp; omega), ⟨v, he.blk h2 (by simp; omega), Kd.R_step h3 (fun i hi hlt => he.block i hlt (by simp; omega))⟩, h4.trans (he.below (by omega) (fun i hi => by simp; omega))⟩
  case round =>
    rintro k x W hx ⟨h1, ⟨v, h2, h3⟩, h4⟩ hsz
    have HSN := Lib.hid (hidX_snoc lU lV (mergeB lU lV) k x hx)
    have HX := Lib.hid hx
    have H1 := Lib.hid h1
    have H2 := Lib.hid h2
    have H3 := Lib.hid h3
    have z1 : w1.heap.size + 4 ≤ W0.heap.size := by omega
    have z2 : W0.heap.size < W.heap.size := by omega
    have z3 : W0.heap.size + 1 < W.heap.size := by omega
    clear hz0 hx ha0 hb0 h2 h1 h3 hr0 hu0
    gi_wp2
    refine ⟨(Kept.refl _ _), (Kept.refl _ _), fun W2 he => ?_⟩
    have h32 : Below w1.heap.size w1 W2 := h4.trans (he.below (by omega) (fun i hi => by omega))
    have g1 := he.blk H1.out (by omega)
    have g3 := he.blk H2.out (by omega)
    have g4 : Kd.R (Kd.int .u64) 30 W2 w1.heap.size (fun g => W0.heap.size + 2 ≤ g) v (hidX lU lV ((mergeB lU lV).take k)) := Kd.R_step H3.out (fun i hi hlt => he.block i hlt (by omega))
    have hsz2 : W.heap.size ≤ W2.heap.size := he.size
    have c2 := blk_cell g1 0
    have c3 := pw_cell_below h32 c1
    have c4 := blk_cell g3 0
    have f1 := blk_frozen g3 0
    simp only [List.getElem?_toArray, List.getElem?_cons_zero] at c2 c4
    have zz1 : w1.heap.size < W2.heap.size := by omega
    have zz2 : w.heap.size < W2.heap.size := by omega
    have G1 := Lib.hid g1
    have G3 := Lib.hid g3
    have G4 := Lib.hid g4
    have HB2 := Lib.hid h32
    clear g1 g3 g4 he h4 h32
    have HU2 := Lib.hid (Kd.C_below HU.out HB2.out)
    have HV2 := Lib.hid (Kd.C_below hV1.out HB2.out)
    have hsU := Lib.hid (sorted_iff.2 HSU.out)
    have hsV := Lib.hid (sorted_iff.2 HSV.out)
    have hlU6 : lU.length ≤ 1000000 := by omega
    have hlV6 : lV.length ≤ 1000000 := by omega
    by_cases hgt : getL lU x.1 > getL lV x.1
    · have hd1 : decide (getL lU x.1 > getL lV x.1) = true := decide_eq_true hgt
      have hd2 : decide (getL lV x.1 < getL lU x.1) = true := decide_eq_true hgt
      have HF := Lib.hid hgt
      clear hgt
      gi_wp2_with fail
      refine region_round_ov (by kernel_rfl) (by kernel_rfl) (by kernel_rfl) (fun ⟨_, _, h⟩ => h) ?_
      repeat (go_big_quiet_step (first | (go_at_call_of 22 (Value.slice AU lU.length cU); with_reducible exact Calls_ov (get_calls lU AU cU x.1 _ (Kd.C_below HU2.out (ov_below W2 _)) hcU hsU.out hlU6)) | (go_at_call_of 22 (Value.slice AV lV.length cV); with_reducible exact Calls_ov (get_calls lV AV cV x.1 _ (Kd.C_below HV2.out (ov_below W2 _)) hcV hsV.out hlV6))))
      refine wpQuiet_nil ?_
      intro w3 hb3
      have hl8 : ((hidX lU lV ((mergeB lU lV).take k)).length + 1) * 8 ≤ 140737488355328 := by
        have h1 := hidX_len lU lV ((mergeB lU lV).take k)
        have h2 := mergeB_len lU lV
        simp only [List.length_take] at h1
        omega
      have HL8 := Lib.hid hl8
      have c4' := pw_cell_below hb3 c4
      have f1' := blk_frozen (blk_below G3.out hb3) 0
      have G4' := Lib.hid (Kd.R_below G4.out hb3)
      have G1' := Lib.hid (blk_below G1.out hb3)
      have G3' := Lib.hid (blk_below G3.out hb3)
      have hz3 := hb3.size
      have HB3 := Lib.hid (HB2.out.trans (hb3.mono (by omega)))
      have HB23 := Lib.hid hb3
      clear hl8 hb3
      gi_wp2_with (first | ((with_reducible refine listIn_round ?hL ?hD ?_); (case hL => exact fun ⟨_, _, h⟩ => h); (case hD => rfl); (with_reducible refine gate_builtin (b := .append) (xs := #[.tmp 21, .tmp 23]) rfl ?_)))
      at_builtin
      refine Kd.R_append (Kd.int .u64) (w0 := w1) w1.heap.size rfl (.tmp 21) (.tmp 23) 34 30 (.int .u64 0) 8 rfl Try.underlying34 (by kernel_rfl) rfl (by decide) (by omega) v (hidX lU lV ((mergeB lU lV).take k)) x.1 [.int .u64 x.1] (fun g => W0.heap.size + 2 ≤ g) (fun _ => False) rfl rfl rfl (fun _ hk => hk.elim) (fun g hg => by omega) G4'.out HB3.out (by omega) HL8.out ?_
      intro v1 w4 hR1 hB1 hg1 hat1
      obtain ⟨A1, cp1, rfl⟩ := Kd.R_slice hR1
      have hlen1 : (hidX lU lV ((mergeB lU lV).take k) ++ [x.1]).length = (hidX lU lV ((mergeB lU lV).take k)).length + 1 := by simp
      rw [hlen1] at hR1 ⊢
      clear hlen1
      have hne : ∀ g, g < W0.heap.size → v.ownBlock ≠ some g := fun g hg he => by have := G4'.out.1 g he; omega
      have g1 := (hg1.block (w1.heap.size + 1) (by omega) (hne _ (by omega)).symm).trans G3'.out
      have g2 := (hg1.block w1.heap.size (by omega) (hne _ (by omega)).symm).trans G1'.out
      have c5 := blk_cell g1 0
      have f5 := blk_frozen g1 0
      simp only [List.getElem?_toArray, List.getElem?_cons_zero] at c5
      have hg := hg1.size
      have K1 := Lib.hid g1
      have K2 := Lib.hid g2
      have KR := Lib.hid hR1
      have KG := Lib.hid hg1
      clear g1 g2 hR1 hg1 hat1
      go_wp2
      have hk1 : ∀ kp : Nat → Prop, (∀ g, kp g → g < W0.heap.size) → (∀ g, kp g → g ≠ w1.heap.size + 1) → Kept kp W2 (w4.setCell ⟨w1.heap.size + 1, 0, none⟩ (.slice A1 ((hidX lU lV ((mergeB lU lV).take k)).length + 1) cp1)) := fun kp h1 h2 =>
        (((Kept.refl _ _).below HB23.out).grown KG.out (fun g he hk => hne g (h1 g hk) he)).set (fun hk => h2 _ hk rfl) _ _
      refine ⟨?_, hk1 (fun k => k < w1.heap.size ∨ k = w1.heap.size + 1 + 1 ∨ k = w1.heap.size + 1 + 1 + 1) (fun g hg => by rcases hg with h | h | h <;> omega) (fun g hg => by rcases hg with h | h | h <;> omega), blk_far' K2.out (by omega) _ _, ⟨_, blk_set1 K1.out, ?_⟩, bel_set hB1 (by omega) _ _⟩
      · exact ((((Kept.refl _ _).below HB23.out).grown KG.out (fun g he hk => by have := G4'.out.1 g he; omega))).set (by omega) _ _
      · rw [HSN.out, if_pos HF.out]
        exact Kd.R_far (p := ⟨w1.heap.size + 1, 0, none⟩) KR.out (fun g hg => by simp; omega) _
    · have hd1 : decide (getL lU x.1 > getL lV x.1) = false := decide_eq_false hgt
      have hd2 : decide (getL lV x.1 < getL lU x.1) = false := decide_eq_false hgt
      have HF := Lib.hid hgt
      clear hgt
      gi_wp2_with fail
      refine region_round_ov (by kernel_rfl) (by kernel_rfl) (by kernel_rfl) (fun ⟨_, _, h⟩ => h) ?_
      repeat (go_big_quiet_step (first | (go_at_call_of 22 (Value.slice AU lU.length cU); with_reducible exact Calls_ov (get_calls lU AU cU x.1 _ (Kd.C_below HU2.out (ov_below W2 _)) hcU hsU.out hlU6)) | (go_at_call_of 22 (Value.slice AV lV.length cV); with_reducible exact Calls_ov (get_calls lV AV cV x.1 _ (Kd.C_below HV2.out (ov_below W2 _)) hcV hsV.out hlV6))))
      refine wpQuiet_nil ?_
      intro w3 hb3
      gi_wp2
      refine ⟨(Kept.refl _ _).below hb3, (Kept.refl _ _).below hb3, blk_below G1.out hb3, ⟨v, blk_below G3.out hb3, ?_⟩, HB2.out.trans (hb3.mono (by omega))⟩
      rw [HSN.out, if_neg (by have := HF.out; omega), List.append_nil]
      exact Kd.R_below G4.out hb3
  case done =>
    rintro W ⟨h1, ⟨v, h2, h3⟩, h4⟩ hsz hD
    have c2 := blk_cell h2 0
    have f1 := blk_frozen h2 0
    simp only [List.getElem?_toArray, List.getElem?_cons_zero] at c2
    have z1 : w1.heap.size + 4 ≤ W0.heap.size := by omega
    have z2 : W0.heap.size < W.heap.size := by omega
    have D := Lib.hid hD
    have H3 := Lib.hid h3
    have H4 := Lib.hid h4
    clear h1 h2 h3 hr0 hu0 ha0 hb0 hD hz0 h4 hB0
    gi_wp2
    refine ⟨by simp, .inl ⟨_, _, rfl, run_takeDeferred D.out, ?_⟩⟩
    refine ⟨_, results_tmp rfl _ _ _, v, rfl, ?_, (below_step HB1.out H4.out).trans (belowK_b (w := W0) (by omega) _ _ _ _ (Nat.le_refl _) D.out rfl rfl)⟩
    have := H3.out
    rw [List.take_length] at this
    unfold hidesB
    rw [← HE.out]
    exact Kd.R_lower (Kd.R_mono (Kd.R_step this (fun i hi hlt => World.putObj_heap_other (by omega))) (fun _ _ => trivial)) (by omega)
end Go.Proofs.Ytkajfadhlgmcjaa
end

section
namespace Go.Proofs.Ytkajfadhlgmcjaa
open Go Go.RowKit Go.Shelf Go.Proofs.YtkajfadhlgmcjaaW.PrintWords Go.Proofs.YtkajfadhlgmcjaaW.PrintLast Go.Proofs.YtkajfadhlgmcjaaW.PrintMore
set_option linter.unusedVariables false
set_option linter.unusedSimpArgs false
/-! The reference's test of a label, walked by hand. -/
def levB (a : Int) : Bool := decide (0 ≤ a) && decide (a ≤ 5)
theorem r1fit_calls (a : Int) (w : World) : Calls Try.prog 56 #[.int .i64 a] w fun e w' => e = .returned (.bool (levB a)) ∧ w' = w := by
  by_cases h : 0 ≤ a
  · have d1 : decide (0 ≤ a) = true := decide_eq_true h
    have HV : Hid (levB a = decide (a ≤ 5)) := Lib.hid (by unfold levB; rw [d1]; rfl)
    go_enter Try.func56, Try.ntmps56
    go_wp2
    go_ret
    exact ⟨by rw [HV.out]; rfl, rfl⟩
  · have d1 : decide (0 ≤ a) = false := decide_eq_false h
    have HV : Hid (levB a = false) := Lib.hid (by unfold levB; rw [d1]; rfl)
    go_enter Try.func56, Try.ntmps56
    go_wp2
    go_ret
    exact ⟨by rw [HV.out]; rfl, rfl⟩
/-- May the pair at i stand there? -/
def okX (l : Lab) (i : Nat) : Bool := match l[i]? with
  | none => true
  | some p => levB p.2 && (p.2 != 2 && (match i with
    | 0 => true
    | j + 1 => match l[j]? with
      | none => true
      | some q => !decide (q.1 ≥ p.1)))
def fitX (l : Lab) : Bool := (List.range l.length).all (okX l)
theorem fitX_iff {l : Lab} : fitX l = true ↔ FitL l := by
  unfold fitX
  rw [List.all_eq_true]
  constructor
  · intro h
    have hp : ∀ i (hi : i < l.length), 0 ≤ l[i].2 ∧ l[i].2 ≤ 5 ∧ l[i].2 ≠ 2 ∧ ∀ j, i = j + 1 → ∀ hj : j < l.length, l[j].1 < l[i].1 := by
      intro i hi
      have := h i (by simpa using hi)
      unfold okX levB at this
      rw [List.getElem?_eq_getElem hi] at this
      simp only [Bool.and_eq_true, decide_eq_true_eq, bne_iff_ne] at this
      refine ⟨this.1.1, this.1.2, this.2.1, ?_⟩
      rintro j rfl hj
      have h3 := this.2.2
      simp only [List.getElem?_eq_getElem hj] at h3
      simp at h3
      exact h3
    refine ⟨sorted_iff.1 ?_, fun p hpm => ?_⟩
    · intro i j hi hj hij
      induction j with
      | zero => omega
      | succ j ih =>
        have h1 := (hp (j + 1) hj).2.2.2 j rfl (by omega)
        by_cases he : i = j
        · subst he; exact h1
        · exact Int.lt_trans (ih (by omega) (by omega)) h1
    · obtain ⟨i, hi, rfl⟩ := List.getElem_of_mem hpm
      have := hp i hi
      exact ⟨this.1, this.2.1, this.2.2.1⟩
  · intro h i hi
    have hil : i < l.length := by simpa using hi
    have hl := h.lev l[i] (List.getElem_mem hil)
    unfold okX levB
    rw [List.getElem?_eq_getElem hil]
    simp only [Bool.and_eq_true, decide_eq_true_eq, bne_iff_ne]
    refine ⟨⟨hl.1, hl.2.1⟩, hl.2.2, ?_⟩
    cases i with
    | zero => rfl
    | succ j =>
      simp only [List.getElem?_eq_getElem (show j < l.length by omega)]
      have := sorted_iff.2 h.sorted j (j + 1) (by omega) hil (by omega)
      simp; exact this
theorem fitX_no {l : Lab} {k : Nat} (hk : k < l.length) (h : okX l k = false) : fitX l = false := by
  unfold fitX
  rw [List.all_eq_false]
  exact ⟨k, by simpa using hk, by simp [h]⟩
set_option maxRecDepth 100000 in
set_option maxHeartbeats 2000000 in
theorem rfit_calls (l : Lab) (A : Option Addr) (c : Nat) (w : World) (hC : kPr.C w A l.length l) (hc : l.length ≤ c) (hlen : l.length ≤ 1000000) :
    Calls Try.prog 16 #[.slice A l.length c] w fun e w' => e = .returned (.bool (fitX l)) ∧ ∃ n, w' = w.drewN n := by
  obtain ⟨n, hn⟩ : ∃ n, n = l.length := ⟨_, rfl⟩
  have HC := Lib.hid hC
  have HN := Lib.hid hn
  rw [← hn] at hc hlen ⊢
  clear hC hn
  go_enter Try.func16, Try.ntmps16
  go_wp2
  go_loopw [3] (fun i W => ∃ k : Nat, k ≤ n ∧ i = .int .i64 k ∧ Hid (∀ j, j < k → okX l j = true) ∧ Hid (∃ m, W = w.drewN m)) (fun i W => n - (intOf i).toNat)
  case atStart => exact ⟨0, by omega, rfl, Lib.hid (fun j h => absurd h (by omega)), Lib.hid ⟨0, rfl⟩⟩
  case round =>
    obtain ⟨k, hk, rfl, hall, HW⟩ := hrel
    by_cases hlt : k < n
    · have hkl : k < l.length := by have := HN.out; omega
      obtain ⟨ad, rfl, a0, a1⟩ := lab_at HC.out k hkl
      have b0 : wr.cell? (ad.add (k * 2)) = some (.int .u64 l[k].1) := by obtain ⟨m, rfl⟩ := HW.out; exact a0
      have b1 : wr.cell? ⟨(ad.add (k * 2)).block, (ad.add (k * 2)).off + 1, none⟩ = some (.int .i64 l[k].2) := by obtain ⟨m, rfl⟩ := HW.out; exact a1
      clear a0 a1
      obtain ⟨p, hp⟩ : ∃ p, p = l[k] := ⟨_, rfl⟩
      rw [← hp] at b0 b1
      have HP : Hid (l[k]? = some p) := Lib.hid (by rw [hp]; exact List.getElem?_eq_getElem hkl)
      clear hp
      cases hl : levB p.2 with
      | false =>
        have HL := Lib.hid hl
        have HX : Hid (fitX l = false) := Lib.hid (fitX_no hkl (by unfold okX; rw [HP.out]; simp only []; rw [HL.out]; rfl))
        go_wp2_with fail
        go_big_quiet ((go_at_call 56; exact Calls.quiet_of_same (r1fit_calls _ _)))
        go_wp2_with fail
        go_ret
        exact ⟨by rw [HX.out]; rfl, by obtain ⟨m, rfl⟩ := HW.out; exact ⟨_, World.drewN_drewN _ _ _⟩⟩
      | true =>
        have HL := Lib.hid hl
        by_cases h2 : p.2 = 2
        · have e2 : (p.2 == 2) = true := beq_iff_eq.2 h2
          have H2 := Lib.hid h2
          clear h2
          have HX : Hid (fitX l = false) := Lib.hid (fitX_no hkl (by unfold okX; rw [HP.out]; simp only []; rw [H2.out]; simp))
          go_wp2_with fail
          go_big_quiet ((go_at_call 56; exact Calls.quiet_of_same (r1fit_calls _ _)))
          go_wp2_with fail
          go_ret
          exact ⟨by rw [HX.out]; rfl, by obtain ⟨m, rfl⟩ := HW.out; exact ⟨_, World.drewN_drewN _ _ _⟩⟩
        · have e2 : (p.2 == 2) = false := beq_eq_false_iff_ne.2 h2
          have H2 := Lib.hid h2
          clear h2
          cases k with
          | zero =>
            have hz : ad.add 0 = ad := by unfold Addr.add; simp
            rw [Nat.zero_mul, hz] at b0 b1
            have HX : Hid (okX l 0 = true) := Lib.hid (by unfold okX; rw [HP.out]; simp only []; rw [HL.out, bne_iff_ne.2 H2.out]; rfl)
            go_wp2_with fail
            go_big_quiet ((go_at_call 56; exact Calls.quiet_of_same (r1fit_calls _ _)))
            go_wp2_with fail
            go_roundw
            case rel => exact ⟨0 + 1, by omega, by simp, Lib.hid (fun j hj => by
              by_cases h : j = 0
              · subst h; exact HX.out
              · exact hall.out j (by omega)), Lib.hid (by obtain ⟨m, rfl⟩ := HW.out; exact ⟨_, World.drewN_drewN _ _ _⟩)⟩
            case measure => simp [intOf]; omega
          | succ k =>
            have hkl2 : k < l.length := by omega
            obtain ⟨ad2, e3, a2, a3⟩ := lab_at HC.out k hkl2
            cases e3
            have b2 : wr.cell? (ad.add (k * 2)) = some (.int .u64 l[k].1) := by obtain ⟨m, rfl⟩ := HW.out; exact a2
            clear a2 a3
            obtain ⟨q, hq⟩ : ∃ q, q = l[k] := ⟨_, rfl⟩
            rw [← hq] at b2
            have HQ : Hid (l[k]? = some q) := Lib.hid (by rw [hq]; exact List.getElem?_eq_getElem hkl2)
            clear hq
            have g1 : decide ((k : Int) + 1 > 0) = true := decide_eq_true (by omega)
            by_cases h4 : q.1 ≥ p.1
            · have d4 : decide (q.1 ≥ p.1) = true := decide_eq_true h4
              have d5 : decide (p.1 ≤ q.1) = true := decide_eq_true h4
              have H4 := Lib.hid h4
              clear h4
              have HX : Hid (fitX l = false) := Lib.hid (fitX_no hkl (by unfold okX; rw [HP.out]; simp only []; rw [HQ.out]; simp only []; rw [decide_eq_true H4.out]; simp))
              go_wp2_with fail
              go_big_quiet ((go_at_call 56; exact Calls.quiet_of_same (r1fit_calls _ _)))
              go_wp2_with fail
              go_ret
              exact ⟨by rw [HX.out]; rfl, by obtain ⟨m, rfl⟩ := HW.out; exact ⟨_, World.drewN_drewN _ _ _⟩⟩
            · have d4 : decide (q.1 ≥ p.1) = false := decide_eq_false h4
              have d5 : decide (p.1 ≤ q.1) = false := decide_eq_false h4
              have H4 := Lib.hid h4
              clear h4
              have HX : Hid (okX l (k + 1) = true) := Lib.hid (by unfold okX; rw [HP.out]; simp only []; rw [HQ.out, HL.out, bne_iff_ne.2 H2.out]; simp only []; rw [decide_eq_false H4.out]; rfl)
              go_wp2_with fail
              go_big_quiet ((go_at_call 56; exact Calls.quiet_of_same (r1fit_calls _ _)))
              go_wp2_with fail
              go_roundw
              case rel => exact ⟨k + 1 + 1, by omega, by simp, Lib.hid (fun j hj => by
                by_cases h : j = k + 1
                · subst h; exact HX.out
                · exact hall.out j (by omega)), Lib.hid (by obtain ⟨m, rfl⟩ := HW.out; exact ⟨_, World.drewN_drewN _ _ _⟩)⟩
              case measure => simp [intOf]; omega
    · obtain rfl : k = n := by omega
      have hf : Hid (fitX l = true) := Lib.hid (by
        unfold fitX
        rw [List.all_eq_true]
        intro j hj
        exact hall.out j (by have := HN.out; simp at hj; omega))
      go_wp2
      go_ret
      exact ⟨by rw [hf.out]; rfl, HW.out⟩
end Go.Proofs.Ytkajfadhlgmcjaa
end
