import Derived.Test.YteibeoipnjhicaaGreatRzA
import Derived.Test.YteibeoipnjhicaaGreatRz3
import Derived.Test.YteibeoipnjhicaaGreatRzB
import Derived.Lib.Hide
import Derived.Lib.AppendZerosOnto
import Derived.Lib.SliceRun
import Derived.WalkKit
section
namespace Go.Proofs.YteibeoipnjhicaaGreat
open Go Go.RowKit
set_option linter.unusedVariables false
set_option linter.unusedSimpArgs false
set_option maxHeartbeats 16000000
set_option maxRecDepth 100000
attribute [go_sem] q2s
theorem clone_bornG {P : Program} {fn T sz : Nat} (hcl : CloneC P fn T sz) {els : List (List PV)} (hs : ∀ e ∈ els, e.length = sz) (hlen : els.length ≤ 1000000) (hne : els ≠ []) : BornC P fn [.sl els] (fun m => .gr m els.length) (.born T sz els) := by
  refine ⟨rfl, fun w M0 σ H m vs hr hm hvl => ?_⟩
  obtain ⟨v, rfl, hv⟩ := vl_one hvl
  obtain ⟨A, c, l, rfl, hc, hl, hrd, hcr⟩ := rows_of (sz := sz) hv hs
  have hp : 0 < els.length := List.length_pos_iff.2 hne
  rw [← hl] at hc ⊢
  refine (hcl l A c w hrd hc (by omega)).mono ?_
  rintro e w' ⟨v, rfl, ho, hb⟩
  rcases ho.2 with ⟨rfl, h0⟩ | ⟨g, cap, cur, rfl, hg0, hg, hnc, hcm, hcs, htake⟩
  · exact absurd (List.eq_nil_of_length_eq_zero (by omega)) hne
  · have hgl : g < w'.heap.size := blk_lt hg
    have hmore := hr.more hb hm (.row T sz els) ⟨g, cap, els.length, 0, 0⟩ hg0 hgl (fun l' hl' => by cases hl') (fun e sz els hl' => by
      cases hl'
      exact ⟨hp, rfl, hs, flat l, ⟨by rw [q4q, hl], .inr ⟨g, cap, cur, rfl, Nat.zero_le _, hg, by rw [← hl]; exact hnc, hcm, hcs, by rw [← hl]; exact htake⟩⟩, hcr⟩)
    refine ⟨_, gset σ m ⟨g, cap, els.length, 0, 0⟩, rfl, hmore.1, hmore.2, ?_⟩
    rw [hl]
    exact .gr m els.length _ hp (by rw [q2k]; exact Nat.le_refl _) (q5x _) (fun _ => by rw [q2k])
theorem cloneU_nil (A : Option Addr) (c : Nat) (w : World) : Calls Tryz.prog 139 #[.slice A 0 c] w fun e w' => ∃ A', e = .returned (.slice A' 0 0) ∧ Below w.heap.size w w' := by
  have q22 : ∀ (W : World) (a : Option Addr) (n c : Nat), (binOp .eql 41 (.slice a n c) (.slice none 0 0)).run Tryz.prog W = .ok (.bool a.isNone) W := fun W a n c => Lib.run_eql_slice_nil W _ _ a n c 0 0 Tryz.underlying41
  cases A with
  | none =>
    go_enter Tryz.func139, Tryz.ntmps139
    go_wp2
    go_ret
    exact ⟨_, rfl, Below.refl _ _⟩
  | some ad =>
    obtain ⟨i, hi, hzz⟩ := Option.map_eq_some_iff.1 infoSlU
    simp only [Prod.mk.injEq] at hzz
    have hrun : (Builtin.append_ #[41, 41] 41 #[.slice (some ⟨w.heap.size, 0, none⟩) 0 0, .slice (some ad) 0 c]).run Tryz.prog (w.alloc (.cells #[] 22)) = .ok (.slice (some ⟨w.heap.size, 0, none⟩) 0 0) (w.alloc (.cells #[] 22)) := by
      simp [Builtin.append_, run_underlying Tryz.underlying41, sizeOf, typeInfo, hi, storeCells, Builtin.lenOf, Builtin.firstCells, loadCells, loadCellsFrom]
    have HB : Hid (Below w.heap.size w (w.alloc (.cells #[] 22))) := Lib.hid (q7h w _)
    clear hzz hi
    go_enter Tryz.func139, Tryz.ntmps139
    go_wp2_with (at_builtin; refine Lib.wpList_append_run _ rfl _ _ _ _ rfl _ _ rfl rfl _ _ hrun ?_)
    go_ret
    exact ⟨_, rfl, HB.out⟩
theorem cloneU_nilsl : Pure Tryz.prog 139 [.sl []] .nilsl := by
  intro w M σ L vs _ hvl
  obtain ⟨v, rfl, hv⟩ := vl_one hvl
  have : ∃ A c, v = .slice A 0 c := by
    rcases q6b hv with ⟨_, A, cap, rfl⟩ | ⟨b, o, sz', cap, f, rfl, _⟩
    · exact ⟨A, cap, rfl⟩
    · exact ⟨_, cap, rfl⟩
  obtain ⟨A, c, rfl⟩ := this
  refine (cloneU_nil A c w).mono ?_
  rintro e w' ⟨A', rfl, hb⟩
  exact ⟨_, rfl, .nilsl A', hb⟩
theorem u_rows' (l : List Int) : ∀ e ∈ l.map u64, e.length = szU := fun e he => by obtain ⟨y, _, rfl⟩ := List.mem_map.1 he; rfl
theorem cloneU_born {l : List Int} (hl : l.length ≤ 1000000) (hne : l ≠ []) : BornC Tryz.prog 139 [.sl (l.map u64)] (fun m => .gr m l.length) (.born 22 1 (l.map u64)) := by
  have := clone_bornG (sz := szU) cloneU_calls (u_rows' l) (by simpa using hl) (by simpa using hne)
  rw [List.length_map] at this
  exact this
theorem cloneU_pure (l : List Int) (hl : l.length ≤ 1000000) : Pure Tryz.prog 139 [.sl (l.map u64)] (.sl (l.map u64)) := clone_pure (sz := szU) cloneU_calls (u_rows' l) (by simpa using hl) (by have h : Bd (fun _ => False) (.sl (l.map u64)) = True := u64_bdS _ l; rw [h]; trivial)
end Go.Proofs.YteibeoipnjhicaaGreat
end

section
namespace Go.Proofs.YteibeoipnjhicaaGreat
open Go Go.RowKit Go.Shelf Go.Lib
set_option linter.unusedVariables false
set_option linter.unusedSimpArgs false
set_option maxHeartbeats 4000000
set_option maxRecDepth 100000
theorem growU_calls (n : Nat) (w : World) (hn : n ≤ 1000000) : Calls Tryz.prog 117 #[.slice none 0 0, .int .i64 n] w fun e w' => ∃ v, e = .returned v ∧ w'.ownsRow w.heap.size 22 1 v 0 [] ∧ Below w.heap.size w w' := by
  have h1 : ¬ ((n : Int) < 0) := by omega
  have h2 : wrap64 ((n : Int) - 0) = (n : Int) := by unfold wrap64; omega
  rcases Nat.eq_zero_or_pos n with h0 | hpos
  · subst h0
    go_enter Tryz.func117, Tryz.ntmps117
    go_wp2
    go_ret
    exact ⟨_, rfl, ⟨rfl, .inl ⟨rfl, rfl⟩⟩, Below.refl _ _⟩
  · have h4 : (n : Int) > 0 := by omega
    obtain ⟨i, hi, hzz⟩ := Option.map_eq_some_iff.1 infoSlU
    simp only [Prod.mk.injEq] at hzz
    obtain ⟨hz, hs, hb⟩ := hzz
    have hold : (Builtin.firstCells i.size 0 (.slice none 0 0)).run Tryz.prog w.drew = .ok (([] : List Value).toArray) w.drew := run_firstCells_none w.drew i.size 0 0 0
    have hrz : ∀ ty, (Builtin.append_ #[41, 3] ty #[.slice none 0 0, .int .i64 (n : Int)]).run Tryz.prog w =
        .ok (.slice (some ⟨w.heap.size, 0, none⟩) n (grownCap w n 0 22)) (w.drew.alloc (.cells (([] : List Value).toArray ++ Builtin.zeroCells (Value.int .u64 0).cells n ++ Builtin.zeroCells (Value.int .u64 0).cells (grownCap w n 0 22 - n)) 22)) := fun ty => by
      have h := Lib.run_append_grow_zeros w 41 3 ty 22 i (.int .u64 0) .i64 .i64 Tryz.underlying41 Tryz.underlying3 hi hz none 0 0 [] hold n (by omega) (by omega) (by omega) (by omega)
        (by rw [hb]; omega) (by rw [Nat.zero_add]; exact growslice_fits hpos (by rw [hb]; omega))
      rw [Nat.zero_add] at h
      exact h
    have hGn : n ≤ grownCap w n 0 22 := grownCap_ge w _ _ _
    have hGm : grownCap w n 0 22 ≤ maxLen := grownCap_le_maxLen w n 0 22 (by unfold maxLen; omega)
    obtain ⟨G, hG⟩ : ∃ G, G = grownCap w n 0 22 := ⟨_, rfl⟩
    rw [← hG] at hrz hGn hGm
    have HM := Lib.hid hGm
    have hG63 : G ≤ 9223372036854775807 := by unfold maxLen at hGm; omega
    clear hold hG hGm
    go_enter Tryz.func117, Tryz.ntmps117
    go_wp2_with (at_builtin; refine Lib.wpList_append_run _ rfl _ _ _ _ rfl _ _ rfl rfl _ _ (hrz _) ?_)
    go_ret
    refine ⟨_, rfl, ⟨rfl, .inr ⟨w.heap.size, G, _, rfl, Nat.le_refl _, heap_alloc_new w.drew _, Nat.zero_le _, HM.out, ?_, rfl⟩⟩, (Below.refl _ _).drew.alloc (by simp) _⟩
    simp [Array.size_append, size_zeroCells, Value.cells]
    omega
theorem cell_bel {w w1 : World} {a : Addr} {v : Value} (hb : Below w.heap.size w w1) (h : w.cell? a = some v) : w1.cell? a = some v := by
  rw [World.cell?_of_block (w := w) (a := a) (hb.block _ (World.block_lt_of_cell? w _ h))]; exact h
theorem appendU (w W : World) (v : Value) (n : Nat) (xs : List Value) (hown : W.ownsRow w.heap.size 22 1 v n xs) (hB : Below w.heap.size w W) (A : Option Addr) (c : Nat) (l : List (Cl szU)) (hC : RdC w A l) (hn : n + l.length ≤ 1000000) :
    ∃ v' W', (Builtin.append_ #[41, 41] 41 #[v, .slice A l.length c]).run Tryz.prog W = .ok v' W' ∧ W'.ownsRow w.heap.size 22 1 v' (n + l.length) (xs ++ flat l) ∧ Below w.heap.size w W' := by
  obtain ⟨i, hi, hzz⟩ := Option.map_eq_some_iff.1 infoSlU
  simp only [Prod.mk.injEq] at hzz
  obtain ⟨hz, hs, hb⟩ := hzz
  cases A with
  | none =>
    have hl : l = [] := by
      cases l with
      | nil => rfl
      | cons x l => obtain ⟨ad, e, _⟩ := hC (by simp); cases e
    subst hl
    refine ⟨v, W, ?_, by simpa [flat] using hown, hB⟩
    rcases hown.2 with ⟨rfl, h0⟩ | ⟨g, cap, cur, rfl, hg0, hg, hnc, hcm, hcs, htake⟩
    · simp [Builtin.append_, run_underlying Tryz.underlying41, sizeOf, typeInfo, hi, storeCells, Builtin.lenOf, Builtin.firstCells, loadCells, loadCellsFrom]
    · have : ¬ cap < n := by omega
      simp [Builtin.append_, run_underlying Tryz.underlying41, sizeOf, typeInfo, hi, storeCells, Builtin.lenOf, Builtin.firstCells, loadCells, loadCellsFrom, hnc, this]
  | some ad =>
    obtain ⟨v1, w1, hrun, hown', hg, _, _⟩ := Go.run_append_own_at (P := Tryz.prog) W w.heap.size 41 41 22 i (.int .u64 0) 1 8 Tryz.underlying41 hi hz hs hb rfl (by decide) v n xs hown
      ad l.length c (flat l) (q4q l) (C_flat (hC.below hB) ad rfl) (q9x l) (by simp only [maxLen]; omega) (by omega) hB.size
    refine ⟨v1, w1, hrun, hown', hB.grown hg hB.size (fun k hk => ?_)⟩
    rcases hown.2 with ⟨rfl, h0⟩ | ⟨g, cap, cur, rfl, hg0, hg', hnc, hcm, hcs, htake⟩
    · simp [Value.ownBlock] at hk
    · simp [Value.ownBlock] at hk; omega
def sumL (a b k : Nat) : Nat := if k = 0 then 0 else if k = 1 then a else a + b
theorem concatU_calls (l1 l2 : List (Cl szU)) (A1 A2 : Option Addr) (c1 c2 : Nat) (b o cap : Nat) (w : World) (h0 : w.cell? ⟨b, o, none⟩ = some (.slice A1 l1.length c1)) (h1 : w.cell? ⟨b, o + 1, none⟩ = some (.slice A2 l2.length c2)) (hC1 : RdC w A1 l1) (hC2 : RdC w A2 l2)
    (hl1 : l1.length ≤ 1000) (hl2 : l2.length ≤ 1000) : Calls Tryz.prog 68 #[.slice (some ⟨b, o, none⟩) 2 cap] w fun e w' => ∃ v, e = .returned v ∧ RowC 22 w' w.heap.size v (l1 ++ l2) ∧ Below w.heap.size w w' := by
  have HC1 := Lib.hid hC1
  have HC2 := Lib.hid hC2
  obtain ⟨n1, hn1⟩ : ∃ n, n = l1.length := ⟨_, rfl⟩
  obtain ⟨n2, hn2⟩ : ∃ n, n = l2.length := ⟨_, rfl⟩
  have HN1 := Lib.hid hn1
  have HN2 := Lib.hid hn2
  have HE := Lib.hid (And.intro h0 h1)
  rw [← hn1] at hl1 h0
  rw [← hn2] at hl2 h1
  clear hC1 hC2 hn1 hn2
  have w1 : wrap64 ((0 : Int) + (n1 : Int)) = (n1 : Int) := by unfold wrap64; omega
  have w2 : wrap64 ((n1 : Int) + (n2 : Int)) = ((n1 + n2 : Nat) : Int) := by unfold wrap64; omega
  have g1 : ¬ ((n1 : Int) < 0) := by omega
  have g2 : ¬ (((n1 + n2 : Nat) : Int) < 0) := by omega
  go_enter Tryz.func68, Tryz.ntmps68
  go_wp2
  go_loop [3, 11] (fun s i => ∃ k : Nat, k ≤ 2 ∧ i = .int .i64 k ∧ s = .int .i64 (sumL n1 n2 k)) (fun _ i => 2 - (intOf i).toNat)
  case atStart => exact ⟨0, by omega, rfl, rfl⟩
  case round =>
    obtain ⟨k, hk, rfl, rfl⟩ := hrel
    by_cases hlt : k < 2
    · rcases (by omega : k = 0 ∨ k = 1) with rfl | rfl
      · simp only [sumL, if_true]
        go_wp2
        go_round
        case rel => exact ⟨1, by omega, rfl, by simp [sumL]⟩
        case measure => simp [intOf]
      · have e : sumL n1 n2 1 = n1 := by simp [sumL]
        rw [e]
        go_wp2
        go_round
        case rel => exact ⟨2, by omega, rfl, by simp [sumL]⟩
        case measure => simp [intOf]
    · obtain rfl : k = 2 := by omega
      have e : sumL n1 n2 2 = n1 + n2 := by simp [sumL]
      rw [e]
      go_wp2_with (refine (growU_calls (n1 + n2) _ (by omega)).mono ?_; rintro e W0 ⟨v0, rfl, own0, B0⟩)
      obtain ⟨v1, W1, r1, own1, B1⟩ := appendU w W0 v0 0 [] own0 B0 A1 c1 l1 HC1.out (by have := HN1.out; omega)
      obtain ⟨v2, W2, r2, own2, B2⟩ := appendU w W1 v1 _ _ own1 B1 A2 c2 l2 HC2.out (by have := HN1.out; have := HN2.out; omega)
      have c00 : W0.cell? ⟨b, o, none⟩ = some (.slice A1 n1 c1) := cell_bel B0 h0
      have c11 : W1.cell? ⟨b, o + 1, none⟩ = some (.slice A2 n2 c2) := cell_bel B1 h1
      rw [← HN1.out] at r1
      rw [← HN2.out] at r2
      have HO := Lib.hid (And.intro own2 B2)
      clear own0 own1 own2 B0 B1 B2
      go_loopw [6, 27] (fun v i W => ∃ k : Nat, k ≤ 2 ∧ i = .int .i64 k ∧ Hid ((k = 0 → v = v0 ∧ W = W0) ∧ (k = 1 → v = v1 ∧ W = W1) ∧ (k = 2 → v = v2 ∧ W = W2))) (fun v i W => 2 - (intOf i).toNat)
      case atStart => exact ⟨0, by omega, rfl, Lib.hid ⟨fun _ => ⟨rfl, rfl⟩, (fun h => by cases h), (fun h => by cases h)⟩⟩
      case round =>
        obtain ⟨k, hk, rfl, hh⟩ := hrel
        rcases (by omega : k = 0 ∨ k = 1 ∨ k = 2) with rfl | rfl | rfl
        · obtain ⟨rfl, rfl⟩ := hh.out.1 rfl
          clear hh
          go_wp2_with (at_builtin; refine Lib.wpList_append_run _ rfl _ _ _ _ rfl _ _ rfl rfl _ _ r1 ?_)
          go_roundw
          case rel => exact ⟨1, by omega, rfl, Lib.hid ⟨(fun h => by cases h), (fun _ => by first | exact ⟨rfl, rfl⟩ | simp), (fun h => by cases h)⟩⟩
          case measure => simp [intOf]
        · obtain ⟨rfl, rfl⟩ := hh.out.2.1 rfl
          clear hh
          go_wp2_with (at_builtin; refine Lib.wpList_append_run _ rfl _ _ _ _ rfl _ _ rfl rfl _ _ r2 ?_)
          go_roundw
          case rel => exact ⟨2, by omega, rfl, Lib.hid ⟨(fun h => by cases h), (fun h => by cases h), (fun _ => by first | exact ⟨rfl, rfl⟩ | simp)⟩⟩
          case measure => simp [intOf]
        · obtain ⟨rfl, rfl⟩ := hh.out.2.2 rfl
          clear hh
          go_wp2
          go_ret
          refine ⟨_, rfl, ?_, HO.out.2⟩
          have := HO.out.1
          unfold RowC
          rw [List.length_append, q4z]
          rw [Nat.zero_add, List.nil_append] at this
          exact this
end Go.Proofs.YteibeoipnjhicaaGreat
end

section
namespace Go.Proofs.YteibeoipnjhicaaGreat
open Go Go.RowKit
set_option linter.unusedVariables false
set_option linter.unusedSimpArgs false
theorem concat_csat {a b : List Int} (ha : a.length ≤ 1000) (hb : b.length ≤ 1000) (H : Heap) (m : Nat) : CSat Tryz.prog 68 [.sl [[.sl (a.map u64)], [.sl (b.map u64)]]] H m (fun out H' m' =>
    ((a ++ b).map u64 = [] ∧ out = .ret .bz ∧ H' = H ∧ m' = m) ∨ (out = .ret (.bs m ((a ++ b).map u64).length 22 szU) ∧ H' = hset H m (some (.box ((a ++ b).map u64).flatten)) ∧ m' = m + 1)) := by
  intro w M0 σ vs hr hfree hvl
  obtain ⟨v, rfl, hv⟩ := vl_one hvl
  rcases q6b hv with ⟨h, _⟩ | ⟨bb, o, sz, cap, f, rfl, hc, hs, hcell, hh⟩
  · cases h
  · have f0 := (hcell 0 _ rfl).1
    have f1 := (hcell 1 _ rfl).1
    have v0 := hh 0 _ rfl
    have v1 := hh 1 _ rfl
    obtain ⟨A1, c1, l1, e1, hc1, hl1, hrd1, hcr1⟩ := rows_of (sz := szU) v0 (u_rows' a)
    obtain ⟨A2, c2, l2, e2, hc2, hl2, hrd2, hcr2⟩ := rows_of (sz := szU) v1 (u_rows' b)
    rw [e1, ← hl1, Nat.add_zero] at f0
    rw [e2, ← hl2] at f1
    rw [List.length_map] at hl1 hl2
    have hcr : CR w (MU M0 σ H) σ (LV H) (flat (l1 ++ l2)) ((a ++ b).map u64).flatten := by
      rw [q4z, List.map_append, List.flatten_append]
      exact cr_app hcr1 hcr2
    have hll : (l1 ++ l2).length = ((a ++ b).map u64).length := by simp [hl1, hl2]
    refine (concatU_calls l1 l2 A1 A2 c1 c2 bb o cap w f0 f1 hrd1 hrd2 (by omega) (by omega)).mono ?_
    rintro e w' ⟨v, rfl, ho, hb⟩
    have hm : H m = none := hfree m (Nat.le_refl _)
    rcases ho.2 with ⟨rfl, h0⟩ | ⟨g, cap, cur, rfl, hg0, hg, hnc, hcm, hcs, htake⟩
    · have hels : (a ++ b).map u64 = [] := List.eq_nil_of_length_eq_zero (by rw [← hll]; exact h0)
      exact ⟨.ret .bz, H, m, σ, .inl ⟨hels, rfl, rfl, rfl⟩, hr.all hb.size hb.block, hfree, Nat.le_refl _, Fr.all hb, .bz⟩
    · have hgl : g < w'.heap.size := blk_lt hg
      have hmore := hr.more hb hm (.box ((a ++ b).map u64).flatten) ⟨g, cap, 0, 22, szU⟩ hg0 hgl (fun l' hl' => by
        cases hl'
        refine ⟨rfl, cur, 22, hg, ⟨rfl, hcs, hcm⟩, ?_⟩
        rw [← hcr.len, q4q, htake]; exact hcr) (fun e sz els hl => by cases hl)
      refine ⟨.ret (.bs m (l1 ++ l2).length 22 szU), hset H m (some (.box ((a ++ b).map u64).flatten)), m + 1, gset σ m ⟨g, cap, 0, 22, szU⟩, .inr ⟨by rw [hll], rfl, rfl⟩, hmore.1, fun i hi => by rw [q2l _ _ (by omega)]; exact hfree i (by omega), by omega, hmore.2, ?_⟩
      have := VR.bs (w := w') (M := MU M0 (gset σ m ⟨g, cap, 0, 22, szU⟩) (hset H m (some (.box ((a ++ b).map u64).flatten)))) (σ := gset σ m ⟨g, cap, 0, 22, szU⟩) (L := LV (hset H m (some (.box ((a ++ b).map u64).flatten)))) m (l1 ++ l2).length 22 szU (q5x _) (by rw [q2k]) (by rw [q2k]; exact hnc) (by rw [q2k]) (by rw [q2k])
      rw [q2k] at this
      exact this
theorem concat_p (a b : List Int) (ha : a.length ≤ 1000) (hb : b.length ≤ 1000) : Pure Tryz.prog 68 [.sl [[.sl (a.map u64)], [.sl (b.map u64)]]] (.sl ((a ++ b).map u64)) := by
  have hbd : Bd (fun _ => False) (.sl ((a ++ b).map u64)) := by have h := u64_bdS (fun _ => False) (a ++ b); rw [h]; trivial
  have hb1 : Bd (fun _ => False) (.sl (a.map u64)) := by have h := u64_bdS (fun _ => False) a; rw [h]; trivial
  have hb2 : Bd (fun _ => False) (.sl (b.map u64)) := by have h := u64_bdS (fun _ => False) b; rw [h]; trivial
  refine pure_frz (fun p hp => ?_) ((concat_csat ha hb _ _).mono ?_)
  · simp only [List.mem_cons, List.not_mem_nil, or_false] at hp
    subst hp
    refine Bd.sl _ (fun e he p hp => ?_)
    simp only [List.mem_cons, List.not_mem_nil, or_false] at he
    rcases he with rfl | rfl <;> (simp only [List.mem_cons, List.not_mem_nil, or_false] at hp; subst hp; assumption)
  · rintro out H' m' (⟨he, rfl, rfl, rfl⟩ | ⟨rfl, rfl, rfl⟩)
    · rw [he]; exact ⟨_, rfl, .bz⟩
    · exact ⟨_, rfl, fz_bs szU (q2s _ _ _) rfl (u_rows' _) rfl hbd⟩
end Go.Proofs.YteibeoipnjhicaaGreat
end
