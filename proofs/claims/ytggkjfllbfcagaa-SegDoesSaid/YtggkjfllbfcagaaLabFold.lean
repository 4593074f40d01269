import Derived.Test.YtggkjfllbfcagaaLabLeq
import Derived.Test.YtggkjfllbfcagaaBridge
namespace Go.Proofs.Ytggkjfllbfcagaa
open Go Go.RowKit Go.Shelf Go.Proofs.YtggkjfllbfcagaaW.PrintWords Go.Proofs.YtggkjfllbfcagaaW.PrintLast Go.Proofs.YtggkjfllbfcagaaW.PrintMore
set_option linter.unusedVariables false
set_option linter.unusedSimpArgs false
attribute [local go_sem] Oper.semAt_some
/-- Two labels in one, level by level. -/
def foldX (F : Int → Int → Int) (xs : List (Int × (Int × Int))) : Lab := xs.filterMap (fun x => if F x.2.1 x.2.2 = 2 then none else some (x.1, F x.2.1 x.2.2))
def foldB (F : Int → Int → Int) (a b : Lab) : Lab := foldX F (mergeB a b)
theorem foldX_snoc (F : Int → Int → Int) (xs : List (Int × (Int × Int))) (k : Nat) (x : Int × (Int × Int)) (hx : xs[k]? = some x) :
    foldX F (xs.take (k + 1)) = foldX F (xs.take k) ++ (if F x.2.1 x.2.2 = 2 then [] else [(x.1, F x.2.1 x.2.2)]) := by
  unfold foldX
  rw [List.take_add_one, hx, List.filterMap_append]
  by_cases h : F x.2.1 x.2.2 = 2 <;> simp [h]
theorem foldX_len (F : Int → Int → Int) (xs : List (Int × (Int × Int))) : (foldX F xs).length ≤ xs.length := List.length_filterMap_le _ _
theorem mergeB_len (a b : Lab) : (mergeB a b).length ≤ a.length + b.length := by
  fun_induction mergeB a b <;> simp_all <;> omega
set_option maxRecDepth 100000 in
set_option maxHeartbeats 1000000 in
theorem folded_calls (gf : Nat) (F : Int → Int → Int) (heg : ∀ args w, (callFunc gf args).run Try.prog w = .ok (.enter gf args) w)
    (hf : ∀ (a b : Int) (w : World), Calls Try.prog gf #[.int .i64 a, .int .i64 b] w fun e w' => e = .returned (.int .i64 (F a b)) ∧ Below w.heap.size w w')
    (la lb : Lab) (Aa Ab : Option Addr) (ca cb : Nat) (w : World) (hCa : kPr.C w Aa la.length la) (hCb : kPr.C w Ab lb.length lb) (hca : la.length ≤ ca) (hcb : lb.length ≤ cb) (hlen : la.length + lb.length ≤ 1000000) :
    Calls Try.prog 141 #[.slice Aa la.length ca, .slice Ab lb.length cb, .func (.func gf) #[] #[]] w fun e w' => ∃ v, e = .returned v ∧ Kd.R kPr 100 w' w.heap.size (fun _ => True) v (foldB F la lb) ∧ Below w.heap.size w w' := by
  refine (callsIn_wide (n := 0)).1 (callsIn_of_wp_marks Try.func141 rfl trivial ?_ rfl)
  simp only [Try.ntmps141, List.size_toArray, List.length_cons, List.length_nil, Nat.reduceAdd, Nat.reduceSub, Array.replicate_succ, Array.replicate_zero, List.push_toArray, List.append_toArray, List.nil_append, List.cons_append]
  gi_wp2_with (refine ⟨trivial, rfl, ?_⟩; gi_at_call 156; refine (callsIn_wide.2 (both_calls _ _ _ _ _ _ _)).mono ?_; rintro e w' ⟨rfl, rfl⟩)
  obtain ⟨W0, hW0⟩ : ∃ W0, ((((w.alloc (Obj.cells #[Value.func (Fn.func gf) #[] #[]] 151)).alloc (Obj.cells #[Value.slice none 0 0] 24)).alloc (Obj.cells #[Value.slice Aa (List.length la) ca] 24)).alloc (Obj.cells #[Value.slice Ab (List.length lb) cb] 24)) = W0 := ⟨_, rfl⟩
  have hz0 : W0.heap.size = w.heap.size + 4 := by rw [← hW0]; simp
  have hg0 : W0.heap[w.heap.size]? = some (.cells #[.func (.func gf) #[] #[]] 151 (0, 0)) := by rw [← hW0]; exact blk_alloc (blk_alloc (blk_alloc (blk_new _ _) _) _) _
  have hr0 : W0.heap[w.heap.size + 1]? = some (.cells #[.slice none 0 0] 24 (0, 0)) := by rw [← hW0]; exact blk_alloc (blk_alloc (blk_at (by simp)) _) _
  have ha0 : W0.heap[w.heap.size + 1 + 1]? = some (.cells #[.slice Aa la.length ca] 24 (0, 0)) := by rw [← hW0]; exact blk_alloc (blk_at (by simp)) _
  have hb0 : W0.heap[w.heap.size + 1 + 1 + 1]? = some (.cells #[.slice Ab lb.length cb] 24 (0, 0)) := by rw [← hW0]; exact blk_at (by simp)
  have hB0 : Below w.heap.size w W0 := by rw [← hW0]; exact (by repeat (first | with_reducible (exact Below.refl _ _) | with_reducible (apply below_alloc) | with_reducible (apply below_drew1) | with_reducible (apply pw_below_drewN) | (with_reducible (refine bel_set ?_ ?_ _ _); rotate_left; omega)))
  rw [hW0]
  clear hW0
  refine range_law (gf := 182) (lb := #[.pointer (some ⟨w.heap.size + 1 + 1, 0, none⟩), .pointer (some ⟨w.heap.size + 1 + 1 + 1, 0, none⟩)]) rfl (enters_of Try.func182 (by kernel_rfl) rfl)
    (both_seq w W0 hB0 (w.heap.size + 1 + 1) (w.heap.size + 1 + 1 + 1) (by omega) (by omega) (by omega) la lb Aa Ab ca cb ha0 hb0 hCa hCb hca hcb hlen) (fun _ => rfl) (fun k h => by omega) (fun k h => by omega)
    (fun k W => W.heap[w.heap.size]? = some (.cells #[.func (.func gf) #[] #[]] 151 (0, 0)) ∧ (∃ v, W.heap[w.heap.size + 1]? = some (.cells #[v] 24 (0, 0)) ∧ Kd.R kPr 100 W w.heap.size (fun g => W0.heap.size + 2 ≤ g) v (foldX F ((mergeB la lb).take k))) ∧ Below w.heap.size w W)
    (fun _ _ _ => False) ?hI (fun _ _ _ _ h _ => h.elim) ⟨hg0, ⟨_, hr0, Kd.R_nil _ _ _ _ _⟩, hB0⟩ ?round ?done (fun _ _ _ _ h => h.elim)
  case hI =>
    rintro k A B ⟨h1, ⟨v, h2, h3⟩, h4⟩ he
    have z1 := blk_lt h2
    exact ⟨he.blk h1 (by simp; omega), ⟨v, he.blk h2 (by simp; omega), Kd.R_step h3 (fun i hi hlt => he.block i hlt (by simp; omega))⟩, h4.trans (he.below (by omega) (fun i hi => by simp; omega))⟩
  case round =>
    rintro k x W hx ⟨h1, ⟨v, h2, h3⟩, h4⟩ hsz
    have hsn := foldX_snoc F (mergeB la lb) k x hx
    have HSN := Lib.hid hsn
    have HX := Lib.hid hx
    have HA0 := Lib.hid ha0
    have HB0 := Lib.hid hb0
    have H1 := Lib.hid h1
    have H2 := Lib.hid h2
    have H3 := Lib.hid h3
    have z1 : w.heap.size + 4 ≤ W0.heap.size := by omega
    have z2 : W0.heap.size < W.heap.size := by omega
    have z3 : W0.heap.size + 1 < W.heap.size := by omega
    clear hz0 hx ha0 hb0 h2 h1 h3 hr0 hg0 hsn
    gi_wp2
    refine ⟨(Kept.refl _ _).alloc _, (Kept.refl _ _).alloc _, fun W2 he => ?_⟩
    have h32 : Below w.heap.size w W2 := h4.trans (Below.trans ((Below.refl _ _).alloc (by omega) _ : Below w.heap.size W _) (he.below (by simp; omega) (fun i hi => by omega)))
    have g1 := he.blk (blk_alloc H1.out _) (by omega)
    have g2 := he.blk (blk_new W _) (by omega)
    have g3 := he.blk (blk_alloc H2.out _) (by omega)
    have g4 : Kd.R kPr 100 W2 w.heap.size (fun g => W0.heap.size + 2 ≤ g) v (foldX F ((mergeB la lb).take k)) := Kd.R_step (Kd.R_alloc H3.out _) (fun i hi hlt => he.block i hlt (by omega))
    have hsz2 : W.heap.size + 1 ≤ W2.heap.size := by have := he.size; simp at this; omega
    have c1 := blk_cell g1 0
    have c2 := blk_cell g2 0
    have c3 := blk_cell g2 1
    have c4 := blk_cell g3 0
    have f1 := blk_frozen g3 0
    simp only [List.getElem?_toArray, List.getElem?_cons_zero, List.getElem?_cons_succ] at c1 c2 c3 c4
    have G1 := Lib.hid g1
    have G3 := Lib.hid g3
    have G4 := Lib.hid g4
    have HB2 := Lib.hid h32
    clear g1 g2 g3 g4 he h4 h32
    by_cases hle : F x.2.1 x.2.2 = 2
    · have hd : (F x.2.1 x.2.2 == 2) = true := beq_iff_eq.2 hle
      have hd2 : (F x.2.1 x.2.2 != 2) = false := bne_eq_false_iff_eq.2 hle
      have HF := Lib.hid hle
      clear hle
      gi_wp2_with (refine ⟨trivial, rfl, ?_⟩; refine (CallsIn.inRound _ (callsIn_wide.2 (hf _ _ _))).mono ?_; rintro e W3 ⟨rfl, hb⟩)
      have hz3 := hb.size
      refine ⟨(Kept.refl _ _).below hb, (Kept.refl _ _).below hb, blk_below G1.out hb, ⟨v, blk_below G3.out hb, ?_⟩, HB2.out.trans (hb.mono (by omega))⟩
      rw [HSN.out, if_pos HF.out, List.append_nil]
      exact Kd.R_below G4.out hb
    · have hd : (F x.2.1 x.2.2 == 2) = false := beq_eq_false_iff_ne.2 hle
      have hd2 : (F x.2.1 x.2.2 != 2) = true := bne_iff_ne.2 hle
      have HF := Lib.hid hle
      clear hle
      have hl8 : ((foldX F ((mergeB la lb).take k)).length + 1) * 16 ≤ 140737488355328 := by
        have h1 := foldX_len F ((mergeB la lb).take k)
        have h2 := mergeB_len la lb
        simp only [List.length_take] at h1
        omega
      have HL8 := Lib.hid hl8
      clear hl8
      gi_wp2_with (first | ((with_reducible refine listIn_round ?hL ?hD ?_); (case hL => exact fun ⟨_, _, h⟩ => h); (case hD => rfl); (with_reducible refine gate_builtin (b := .append) (xs := #[.tmp 24, .tmp 28]) rfl ?_)) | (refine ⟨trivial, rfl, ?_⟩; refine (CallsIn.inRound _ (callsIn_wide.2 (hf _ _ _))).mono ?_; rintro e W3 ⟨rfl, hb⟩; have c4' := pw_cell_below hb c4; have f1' := blk_frozen (blk_below G3.out hb) 0; have G4' := Lib.hid (Kd.R_below G4.out hb); have G1' := Lib.hid (blk_below G1.out hb); have G3' := Lib.hid (blk_below G3.out hb); have hz3 := hb.size; have HB3 := Lib.hid (HB2.out.trans (hb.mono (by omega)))))
      at_builtin
      refine Kd.R_append kPr (w0 := w) w.heap.size rfl (.tmp 24) (.tmp 28) 24 100 (.agg #[.int .u64 0, .int .i64 0]) 16 rfl Try.underlying24 infoPair rfl (by decide) (by omega) v (foldX F ((mergeB la lb).take k)) (x.1, F x.2.1 x.2.2) [.int .u64 x.1, .int .i64 (F x.2.1 x.2.2)] (fun g => W0.heap.size + 2 ≤ g) (fun _ => False) rfl rfl (kPr_mkM _ _ _ _) (fun _ hk => hk.elim) (fun g hg => by omega) G4'.out HB3.out (by omega) HL8.out ?_
      intro v1 w1 hR1 hB1 hg1 hat1
      obtain ⟨A1, cp1, rfl⟩ := Kd.R_slice hR1
      have hlen1 : (foldX F ((mergeB la lb).take k) ++ [(x.1, F x.2.1 x.2.2)]).length = (foldX F ((mergeB la lb).take k)).length + 1 := by simp
      rw [hlen1] at hR1 ⊢
      clear hlen1
      have hne : ∀ g, g < W0.heap.size → v.ownBlock ≠ some g := fun g hg he => by have := G4'.out.1 g he; omega
      have g1 := (hg1.block (w.heap.size + 1) (by omega) (hne _ (by omega)).symm).trans G3'.out
      have g2 := (hg1.block w.heap.size (by omega) (hne _ (by omega)).symm).trans G1'.out
      have c5 := blk_cell g1 0
      have f5 := blk_frozen g1 0
      simp only [List.getElem?_toArray, List.getElem?_cons_zero] at c5
      have hg := hg1.size
      have K1 := Lib.hid g1
      have K2 := Lib.hid g2
      have KR := Lib.hid hR1
      have KG := Lib.hid hg1
      clear g1 g2 hR1 hg1 hat1
      go_wp2
      have hk1 : ∀ kp : Nat → Prop, (∀ g, kp g → g < W0.heap.size) → (∀ g, kp g → g ≠ w.heap.size + 1) → Kept kp W2 (w1.setCell ⟨w.heap.size + 1, 0, none⟩ (.slice A1 ((foldX F ((mergeB la lb).take k)).length + 1) cp1)) := fun kp h1 h2 =>
        (((Kept.refl _ _).below hb).grown KG.out (fun g he hk => hne g (h1 g hk) he)).set (fun hk => h2 _ hk rfl) _ _
      refine ⟨?_, hk1 (fun k => k < w.heap.size ∨ k = w.heap.size + 1 + 1 ∨ k = w.heap.size + 1 + 1 + 1) (fun g hg => by rcases hg with h | h | h <;> omega) (fun g hg => by rcases hg with h | h | h <;> omega), blk_far' K2.out (by omega) _ _, ⟨_, blk_set1 K1.out, ?_⟩, bel_set hB1 (by omega) _ _⟩
      · exact ((((Kept.refl _ _).below hb).grown KG.out (fun g he hk => by have := G4'.out.1 g he; omega))).set (by omega) _ _
      · rw [HSN.out, if_neg HF.out]
        exact Kd.R_far (p := ⟨w.heap.size + 1, 0, none⟩) KR.out (fun g hg => by simp; omega) _
  case done =>
    rintro W ⟨h1, ⟨v, h2, h3⟩, h4⟩ hsz hD
    have c1 := blk_cell h2 0
    have f1 := blk_frozen h2 0
    simp only [List.getElem?_toArray, List.getElem?_cons_zero] at c1
    have z1 : w.heap.size + 4 ≤ W0.heap.size := by omega
    have z2 : W0.heap.size < W.heap.size := by omega
    have D := Lib.hid hD
    have H3 := Lib.hid h3
    clear h1 h2 h3 hr0 hg0 ha0 hb0 hD hz0
    gi_wp2
    refine ⟨by simp, .inl ⟨_, _, rfl, run_takeDeferred D.out, ?_⟩⟩
    refine ⟨_, results_tmp rfl _ _ _, v, rfl, ?_, h4.trans (belowK_b (w := W0) (by omega) _ _ _ _ (Nat.le_refl _) D.out rfl rfl)⟩
    have := H3.out
    rw [List.take_length] at this
    exact Kd.R_mono (Kd.R_step this (fun i hi hlt => World.putObj_heap_other (by omega))) (fun _ _ => trivial)
end Go.Proofs.Ytggkjfllbfcagaa
