import Derived.Test.YtggkjfllbfcagaaLabSeq
import Derived.Test.YtggkjfllbfcagaaPLevx
namespace Go.Proofs.Ytggkjfllbfcagaa
open Go Go.RowKit Go.Shelf Go.Proofs.YtggkjfllbfcagaaW.PrintWords Go.Proofs.YtggkjfllbfcagaaW.PrintLast Go.Proofs.YtggkjfllbfcagaaW.PrintMore
set_option linter.unusedVariables false
set_option linter.unusedSimpArgs false
attribute [local go_sem] Oper.semAt_some
/-- A number as a level. -/
def ofL (n : Int) : Int := if 0 ≤ n ∧ n ≤ 5 then n else 2
theorem lev_of (a : Int) : PLev.level_of.f a = some (ofL a) := by
  unfold PLev.level_of.f PLev.level_Fit.f ofL
  by_cases h1 : a ≥ 0
  · by_cases h2 : a ≤ 5
    · simp [h1, h2]
    · simp [h1, h2]
  · simp [h1]
theorem lev_leq (a b : Int) (w : World) : Calls Try.prog 157 #[.int .i64 a, .int .i64 b] w fun e w' => e = .returned (.bool (decide (ofL a ≤ ofL b))) ∧ Below w.heap.size w w' := by
  refine (PLev.level_Leq.calls a b (decide (ofL a ≤ ofL b)) w ?_).mono ?_
  · unfold PLev.level_Leq.f; rw [lev_of, lev_of]; simp
  · rintro e w' ⟨rfl, m, rfl⟩; exact ⟨rfl, pw_below_drewN (Below.refl _ _) _⟩
def leqB (a b : Lab) : Bool := (mergeB a b).all (fun x => decide (ofL x.2.1 ≤ ofL x.2.2))
set_option maxRecDepth 100000 in
set_option maxHeartbeats 1000000 in
theorem leq_calls (la lb : Lab) (Aa Ab : Option Addr) (ca cb : Nat) (w : World) (hCa : kPr.C w Aa la.length la) (hCb : kPr.C w Ab lb.length lb) (hca : la.length ≤ ca) (hcb : lb.length ≤ cb) (hlen : la.length + lb.length ≤ 1000000) :
    Calls Try.prog 130 #[.slice Aa la.length ca, .slice Ab lb.length cb] w fun e w' => e = .returned (.bool (leqB la lb)) ∧ Below w.heap.size w w' := by
  refine (callsIn_wide (n := 0)).1 (callsIn_of_wp_marks Try.func130 rfl trivial ?_ rfl)
  simp only [Try.ntmps130, List.size_toArray, List.length_cons, List.length_nil, Nat.reduceAdd, Nat.reduceSub, Array.replicate_succ, Array.replicate_zero, List.push_toArray, List.append_toArray, List.nil_append, List.cons_append]
  gi_wp2_with (refine ⟨trivial, rfl, ?_⟩; gi_at_call 156; refine (callsIn_wide.2 (both_calls _ _ _ _ _ _ _)).mono ?_; rintro e w' ⟨rfl, rfl⟩)
  obtain ⟨W0, hW0⟩ : ∃ W0, (((w.alloc (Obj.cells #[Value.bool false] 4)).alloc (Obj.cells #[Value.slice Aa (List.length la) ca] 24)).alloc (Obj.cells #[Value.slice Ab (List.length lb) cb] 24)) = W0 := ⟨_, rfl⟩
  have hz0 : W0.heap.size = w.heap.size + 3 := by rw [← hW0]; simp
  have hr0 : W0.heap[w.heap.size]? = some (.cells #[.bool false] 4 (0, 0)) := by rw [← hW0]; exact blk_alloc (blk_alloc (blk_new _ _) _) _
  have ha0 : W0.heap[w.heap.size + 1]? = some (.cells #[.slice Aa la.length ca] 24 (0, 0)) := by rw [← hW0]; exact blk_alloc (blk_at (by simp)) _
  have hb0 : W0.heap[w.heap.size + 1 + 1]? = some (.cells #[.slice Ab lb.length cb] 24 (0, 0)) := by rw [← hW0]; exact blk_at (by simp)
  have hB0 : Below w.heap.size w W0 := by rw [← hW0]; exact (by repeat (first | with_reducible (exact Below.refl _ _) | with_reducible (apply below_alloc) | with_reducible (apply below_drew1) | with_reducible (apply pw_below_drewN) | (with_reducible (refine bel_set ?_ ?_ _ _); rotate_left; omega)))
  rw [hW0]
  clear hW0
  refine range_law (gf := 182) (lb := #[.pointer (some ⟨w.heap.size + 1, 0, none⟩), .pointer (some ⟨w.heap.size + 1 + 1, 0, none⟩)]) rfl (enters_of Try.func182 (by kernel_rfl) rfl)
    (both_seq w W0 hB0 (w.heap.size + 1) (w.heap.size + 1 + 1) (by omega) (by omega) (by omega) la lb Aa Ab ca cb ha0 hb0 hCa hCb hca hcb hlen) (fun _ => rfl) (fun k h => by omega) (fun k h => by omega)
    (fun k W => W.heap[w.heap.size]? = some (.cells #[.bool false] 4 (0, 0)) ∧ (∀ j (x : Int × (Int × Int)), j < k → (mergeB la lb)[j]? = some x → ofL x.2.1 ≤ ofL x.2.2) ∧ Below w.heap.size w W)
    (fun c _ W => c = .ret ∧ W.heap[w.heap.size]? = some (.cells #[.bool false] 4 (0, 0)) ∧ leqB la lb = false ∧ Below w.heap.size w W) ?hI ?hIx ⟨hr0, fun _ _ h => absurd h (by omega), hB0⟩ ?round ?done ?stop
  case hI =>
    rintro k A B ⟨h1, h2, h3⟩ he
    have z1 := blk_lt h1
    exact ⟨he.blk h1 (by simp; omega), h2, h3.trans (he.below (by omega) (fun i hi => by simp; omega))⟩
  case hIx =>
    rintro c k A B ⟨rfl, h1, h2, h3⟩ he
    have z1 := blk_lt h1
    exact ⟨rfl, he.blk h1 (by simp; omega), h2, h3.trans (he.below (by omega) (fun i hi => by simp; omega))⟩
  case round =>
    rintro k x W hx ⟨h1, h2, h3⟩ hsz
    have HX := Lib.hid hx
    have HA0 := Lib.hid ha0
    have HB0 := Lib.hid hb0
    have HP := Lib.hid h2
    have H1 := Lib.hid h1
    have z1 : w.heap.size + 3 ≤ W0.heap.size := by omega
    have z2 : W0.heap.size < W.heap.size := by omega
    have z3 : W0.heap.size + 1 < W.heap.size := by omega
    clear hx ha0 hb0 h2 h1 hr0
    gi_wp2
    refine ⟨(Kept.refl _ _).alloc _, (Kept.refl _ _).alloc _, fun W2 he => ?_⟩
    have h32 : Below w.heap.size w W2 := h3.trans (Below.trans ((Below.refl _ _).alloc (by omega) _ : Below w.heap.size W _) (he.below (by simp; omega) (fun i hi => by omega)))
    have g1 := he.blk (blk_alloc H1.out _) (by omega)
    have g2 := he.blk (blk_new W _) (by omega)
    have hsz2 : W.heap.size + 1 ≤ W2.heap.size := by have := he.size; simp at this; omega
    have c1 := blk_cell g1 0
    have c2 := blk_cell g2 0
    have c3 := blk_cell g2 1
    have f1 := blk_frozen g1 0
    simp only [List.getElem?_toArray, List.getElem?_cons_zero, List.getElem?_cons_succ] at c1 c2 c3
    have G1 := Lib.hid g1
    have HB2 := Lib.hid h32
    clear g1 g2 he h3 h32
    by_cases hle : ofL x.2.1 ≤ ofL x.2.2
    · have hd : decide (ofL x.2.1 ≤ ofL x.2.2) = true := decide_eq_true hle
      gi_wp2_with (refine ⟨trivial, rfl, ?_⟩; gi_at_call 157; refine (CallsIn.inRound _ (callsIn_wide.2 (lev_leq _ _ _))).mono ?_; rintro e W3 ⟨rfl, hb⟩)
      have hz3 := hb.size
      refine ⟨(Kept.refl _ _).below hb, (Kept.refl _ _).below hb, blk_below G1.out hb, ?_, HB2.out.trans (hb.mono (by omega))⟩
      intro j y hj hy
      rcases Nat.lt_succ_iff_lt_or_eq.1 hj with h | rfl
      · exact HP.out j y h hy
      · have := HX.out; rw [hy] at this; cases this; exact hle
    · have hd : decide (ofL x.2.1 ≤ ofL x.2.2) = false := decide_eq_false hle
      gi_wp2_with (refine ⟨trivial, rfl, ?_⟩; gi_at_call 157; refine (CallsIn.inRound _ (callsIn_wide.2 (lev_leq _ _ _))).mono ?_; rintro e W3 ⟨rfl, hb⟩; have c1' := pw_cell_below hb c1; have f1' := blk_frozen (blk_below G1.out hb) 0)
      have hz3 := hb.size
      refine ⟨((Kept.refl _ _).below hb).set (by omega) _ _, rfl, blk_set1 (blk_below G1.out hb), ?_, ?_⟩
      · unfold leqB
        rw [List.all_eq_false]
        exact ⟨x, List.mem_of_getElem? HX.out, by simpa using hle⟩
      · exact bel_set (HB2.out.trans (hb.mono (by omega))) (Nat.le_refl _) _ _
  case done =>
    rintro W ⟨h1, h2, h3⟩ hsz hD
    have c1 := blk_cell h1 0
    have f1 := blk_frozen h1 0
    simp only [List.getElem?_toArray, List.getElem?_cons_zero] at c1
    have z1 : w.heap.size < W0.heap.size := by omega
    have z2 : W0.heap.size < W.heap.size := by omega
    have D := Lib.hid hD
    have H1 := Lib.hid h1
    have HP := Lib.hid h2
    clear h1 h2 hr0 ha0 hb0 hD
    gi_wp2
    have hD1 : (W.setCell ⟨w.heap.size, 0, none⟩ (.bool true)).heap[W0.heap.size]? = some (.deferred (some [])) := (Below.heap_setCell _ _ _ _ (by simp; omega)).trans D.out
    have k2 : ((W.setCell ⟨w.heap.size, 0, none⟩ (.bool true)).putObj W0.heap.size (.deferred none)).heap[w.heap.size]? = some (.cells #[.bool true] 4 (0, 0)) := (World.putObj_heap_other (by omega)).trans (blk_set1 H1.out)
    have c2 := blk_cell k2 0
    simp only [List.getElem?_toArray, List.getElem?_cons_zero] at c2
    have hq : leqB la lb = true := by
      unfold leqB
      rw [List.all_eq_true]
      intro x hx
      obtain ⟨j, hj⟩ := List.mem_iff_getElem?.1 hx
      exact decide_eq_true (HP.out j x (List.getElem?_eq_some_iff.1 hj).1 hj)
    refine ⟨by simp, .inl ⟨_, _, rfl, run_takeDeferred hD1, ?_⟩⟩
    refine ⟨.bool true, by simp [results, Try.results130, go_sem, c2], by rw [hq], ?_⟩
    exact (bel_set h3 (Nat.le_refl _) _ _).trans (belowK_b (w := W0) (by omega) _ _ _ _ (Nat.le_refl _) hD1 rfl rfl)
  case stop =>
    rintro c k W hk ⟨rfl, h1, h2, h3⟩ hsz hD
    have c1 := blk_cell h1 0
    have f1 := blk_frozen h1 0
    simp only [List.getElem?_toArray, List.getElem?_cons_zero] at c1
    have z1 : w.heap.size < W0.heap.size := by omega
    have z2 : W0.heap.size < W.heap.size := by omega
    have D := Lib.hid hD
    have H1 := Lib.hid h1
    have H2 := Lib.hid h2
    clear h1 h2 hr0 ha0 hb0 hD
    gi_wp2
    have k2 : (W.putObj W0.heap.size (.deferred none)).heap[w.heap.size]? = some (.cells #[.bool false] 4 (0, 0)) := (World.putObj_heap_other (by omega)).trans H1.out
    have c2 := blk_cell k2 0
    simp only [List.getElem?_toArray, List.getElem?_cons_zero] at c2
    refine ⟨by simp, .inl ⟨_, _, rfl, run_takeDeferred D.out, ?_⟩⟩
    refine ⟨.bool false, by simp [results, Try.results130, go_sem, c2], by rw [H2.out], ?_⟩
    exact h3.trans (belowK_b (w := W0) (by omega) _ _ _ _ (Nat.le_refl _) D.out rfl rfl)
end Go.Proofs.Ytggkjfllbfcagaa
