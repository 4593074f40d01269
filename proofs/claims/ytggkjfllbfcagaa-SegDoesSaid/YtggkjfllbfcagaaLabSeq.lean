import Derived.Test.YtggkjfllbfcagaaLab
import Derived.Test.YtggkjfllbfcagaaRange
import Derived.Test.YtggkjfllbfcagaaRegion
import Derived.Sort.LoopGhostIn
import Derived.RegionTactic
import Derived.ChangeAlike
namespace Go.Proofs.Ytggkjfllbfcagaa
open Go Go.RowKit Go.Shelf Go.Proofs.YtggkjfllbfcagaaW.PrintWords Go.Proofs.YtggkjfllbfcagaaW.PrintLast Go.Proofs.YtggkjfllbfcagaaW.PrintMore
set_option linter.unusedVariables false
set_option linter.unusedSimpArgs false
attribute [local go_sem] Oper.semAt_some
theorem infoPair : (Try.prog.info? 100).map (fun i => (i.zero, i.size, i.bytes)) = some (some (.agg #[.int .u64 0, .int .i64 0]), 2, 16) := by kernel_rfl
/-- What 'l[1:]' yields. -/
theorem lab_cut (A : Option Addr) (n c : Nat) (h : 1 ≤ n) (W : World) :
    (Instr.slice 24 (.slice A n c) (some (.int .i64 1)) none none).run Try.prog W = .ok (.slice (if c = 1 then A else A.map (·.add 2)) (n - 1) (c - 1)) W := by
  obtain ⟨i, hi, _, hs, _⟩ := info_parts infoPair
  exact cut_from 24 100 .i64 Try.underlying24 hi 2 hs A n c 1 (by omega) (by omega) W
theorem both_calls (A B : Option Addr) (n m c d : Nat) (w : World) :
    Calls Try.prog 156 #[.slice A n c, .slice B m d] w fun e w' => e = .returned (.func (.func 182) #[] #[.pointer (some ⟨w.heap.size, 0, none⟩), .pointer (some ⟨w.heap.size + 1, 0, none⟩)]) ∧ w' = (w.alloc (.cells #[.slice A n c] 24)).alloc (.cells #[.slice B m d] 24) := by
  go_enter Try.func156, Try.ntmps156
  go_wp2
  go_ret
  exact ⟨rfl, rfl⟩
theorem pw_cell_below' {w w1 : World} {n : Nat} (h : Below n w w1) (hn : n = w.heap.size) {a : Addr} {v : Value} (hc : w.cell? a = some v) : w1.cell? a = some v := by
  subst hn; exact pw_cell_below h hc
theorem drop_cons {α : Type} {l : List α} {i : Nat} {x : α} {r : List α} (h : l.drop i = x :: r) : l[i]? = some x ∧ l.drop (i + 1) = r := by
  constructor
  · have := congrArg (·[0]?) h
    simpa using this
  · have := congrArg (List.drop 1) h
    rw [List.drop_drop] at this
    simpa using this
theorem w_abs {p : World → Prop} (w : World) (h : ∀ W, W = w → p W) : p w := h w rfl
theorem blk_set2a {w : World} {g : Nat} {t : TypeId} {v x u : Value} (h : w.heap[g]? = some (.cells #[v, x] t (0, 0))) : (w.setCell ⟨g, 0, none⟩ u).heap[g]? = some (.cells #[u, x] t (0, 0)) := blk_set h 0 u
set_option maxRecDepth 100000 in
set_option maxHeartbeats 4000000 in
theorem both_seq (w0 w : World) (hB : Below w0.heap.size w0 w) (ba bb : Nat) (hba : w0.heap.size ≤ ba) (hbb : w0.heap.size ≤ bb) (hne : ba ≠ bb) (la lb : Lab) (Aa Ab : Option Addr) (ca cb : Nat)
    (hA : w.heap[ba]? = some (.cells #[.slice Aa la.length ca] 24 (0, 0))) (hBx : w.heap[bb]? = some (.cells #[.slice Ab lb.length cb] 24 (0, 0)))
    (hCa : kPr.C w0 Aa la.length la) (hCb : kPr.C w0 Ab lb.length lb) (hca : la.length ≤ ca) (hcb : lb.length ≤ cb) (hlen : la.length + lb.length ≤ 1000000) :
    SeqI Try.prog 182 #[.pointer (some ⟨ba, 0, none⟩), .pointer (some ⟨bb, 0, none⟩)] (fun x : Int × (Int × Int) => #[.int .u64 x.1, .agg #[.int .i64 x.2.1, .int .i64 x.2.2]])
      (fun k => k = ba ∨ k = bb) (fun k => k < w0.heap.size ∨ k = ba ∨ k = bb) (mergeB la lb) w := by
  intro l J Jx W hW hJ hJx hY h0
  have hlt1 := blk_lt hA
  have hlt2 := blk_lt hBx
  refine callsIn_of_wp Try.func182 rfl trivial ?_
  simp only [Try.ntmps182, List.size_toArray, List.length_cons, List.length_nil, Nat.reduceAdd, Nat.reduceSub, Array.replicate_succ, Array.replicate_zero, List.push_toArray, List.append_toArray, List.nil_append, List.cons_append]
  gi_wp2
  gi_loopg [] (la.length + lb.length) (fun gk wr => ∃ (ra rb : Lab) (i : Nat) (Ra Rb : Option Addr) (na nb da db : Nat), mergeB ra rb = (mergeB la lb).drop i ∧ i ≤ (mergeB la lb).length ∧ gk = ra.length + rb.length ∧ ra.length + rb.length ≤ 1000000 ∧
      wr.heap[ba]? = some (.cells #[.slice Ra na da] 24 (0, 0)) ∧ wr.heap[bb]? = some (.cells #[.slice Rb nb db] 24 (0, 0)) ∧ na = ra.length ∧ nb = rb.length ∧ ra.length ≤ da ∧ rb.length ≤ db ∧
      kPr.C w0 Ra ra.length ra ∧ kPr.C w0 Rb rb.length rb ∧ J i wr ∧ Below w0.heap.size w0 wr)
  case atStart => exact ⟨la, lb, 0, Aa, Ab, _, _, ca, cb, by simp, by simp, rfl, hlen, (hW.block ba hlt1).trans hA, (hW.block bb hlt2).trans hBx, rfl, rfl, hca, hcb, hCa, hCb, h0, hB.trans (hW.mono hB.size)⟩
  case round =>
    obtain ⟨ra, rb, i, Ra, Rb, na, nb, da, db, hm, hi, rfl, hlen', hba', hbb', hna, hnb, hda, hdb, hRa, hRb, hJi, hBr⟩ := hrel
    cases ra with
    | nil =>
      cases rb with
      | nil =>
        have hnil : i = (mergeB la lb).length := by
          have := congrArg List.length hm
          simp [mergeB] at this
          omega
        subst hna; subst hnb
        have h1 := blk_cell hba' 0
        have h2 := blk_cell hbb' 0
        simp only [List.getElem?_toArray, List.getElem?_cons_zero] at h1 h2
        clear hba' hbb' hm
        gi_wp2
        go_end0
        exact ⟨⟨_, rfl⟩, .inl (hnil ▸ hJi)⟩
      | cons q tb =>
        obtain rfl : na = 0 := by rw [hna]; simp
        obtain ⟨m, hm'⟩ : ∃ m, tb.length = m := ⟨_, rfl⟩
        obtain rfl : nb = m + 1 := by rw [hnb]; simp [hm']
        obtain ⟨bc, rfl, b0, b1⟩ := lab_head hRb
        have cb0 := pw_cell_below hBr b0
        have cb1 := pw_cell_below hBr b1
        have ltb : bc.block < wr.heap.size := World.block_lt_of_cell? wr _ cb0
        have hm1 : m + 1 ≤ 1000000 := by simp [hm'] at hlen'; omega
        have y1 : ((m : Int) + 1 == 0) = false := by rw [beq_eq_false_iff_ne]; omega
        have y2 : decide ((m : Int) + 1 > 0) = true := decide_eq_true (by omega)
        obtain ⟨Rb', hRb'⟩ : ∃ A', (if db = 1 then some bc else (some bc).map (·.add 2)) = A' := ⟨_, rfl⟩
        have cutb : ∀ W, (Instr.slice 24 (.slice (some bc) (m + 1) db) (some (.int .i64 1)) none none).run Try.prog W = .ok (.slice Rb' m (db - 1)) W := fun W => by have := lab_cut (some bc) (m + 1) db (by omega) W; rw [hRb'] at this; simpa using this
        have htb := lab_tail hRb hdb
        rw [hRb'] at htb
        clear hRb'
        obtain ⟨hx, hm2⟩ := drop_cons (show (mergeB la lb).drop i = (q.1, (2, q.2)) :: mergeB [] tb by rw [← hm]; simp [mergeB])
        have h1 := blk_cell hba' 0
        have h2 := blk_cell hbb' 0
        have f1 := blk_frozen hba' 0
        have f2 := blk_frozen hbb' 0
        simp only [List.getElem?_toArray, List.getElem?_cons_zero] at h1 h2
        have lt1 := blk_lt hba'
        have lt2 := blk_lt hbb'
        have hii : i + 1 ≤ (mergeB la lb).length := by have := (List.getElem?_eq_some_iff.1 hx).1; omega
        have HA := Lib.hid hba'
        have HB := Lib.hid hbb'
        have HX := Lib.hid hx
        have HM2 := Lib.hid hm2
        have HM := Lib.hid hm'
        have HY := Lib.hid hY
        have HJ := Lib.hid hJ
        clear hba' hbb' hm hx hm2  hm' hnb hna hY hJ hJx hA hBx
        gi_wp2_with fail
        refine wpIn_wide.2 ?_
        go_big_quiet (fail)
        gi_wp2_with fail
        refine wpIn_wide.2 ?_
        go_big_quiet (fail)
        gi_wp2_with fail
        refine wpIn_wide.2 ?_
        go_region
        gi_wp2_with fail
        refine yield_upon (HY.out i (q.1, (2, q.2)) _ HX.out (HJ.out _ _ _ hJi ?ev)) ?_
        case ev => first | exact (by repeat (first | with_reducible (exact EvB.refl _ _) | with_reducible (apply EvB.alloc) | with_reducible (apply EvB.drew) | with_reducible (apply EvB.drewN) | (with_reducible (refine EvB.set ?_ ?_ _ _); rotate_left; (first | exact Or.inl rfl | exact Or.inr rfl)) | (with_reducible (refine EvB.fresh ?_ ?_ _ _); rotate_left; omega))) | skip
        rintro e W1 (⟨rfl, hJ1, hK1⟩ | ⟨rfl, hJx1⟩)
        · refine ⟨_, rfl, ?_⟩
          gi_wp2_with fail
          have B1 : Below w0.heap.size w0 W1 := Below.trans (show Below w0.heap.size w0 _ from (by repeat (first | with_reducible (exact hBr) | with_reducible (apply below_alloc) | with_reducible (apply below_drew1) | with_reducible (apply pw_below_drewN) | (with_reducible (refine bel_set ?_ ?_ _ _); rotate_left; omega)))) (hK1.to_below (fun k hk => .inl hk) (by have := hBr.size; simp [World.setCell]; omega))
          go_roundg (([] : Lab).length + tb.length)
          case rel => exact ⟨([] : Lab), tb, i + 1, Ra, Rb', 0, m, da, (db - 1), HM2.out.symm, hii, rfl, by simp at hlen' ⊢; omega, hK1.blk (by repeat (first | with_reducible (exact HA.out) | with_reducible (refine blk_alloc ?_ _) | with_reducible (refine blk_drewN ?_ _) | with_reducible (refine blk_drew ?_) | with_reducible (apply blk_set1) | with_reducible (refine blk_far' ?_ (by omega) _ _))) (.inr (.inl rfl)), hK1.blk (by repeat (first | with_reducible (exact HB.out) | with_reducible (refine blk_alloc ?_ _) | with_reducible (refine blk_drewN ?_ _) | with_reducible (refine blk_drew ?_) | with_reducible (apply blk_set1) | with_reducible (refine blk_far' ?_ (by omega) _ _))) (.inr (.inr rfl)), rfl, HM.out.symm, hda, by simp at hdb; omega, hRa, htb, hJ1, B1⟩
          case measure => first | omega | (simp; done) | (simp; omega)
        · refine ⟨_, rfl, ?_⟩
          gi_wp2_with fail
          refine bodyPost_ret (results_none rfl _ _ _) rfl ?_
          exact ⟨⟨_, rfl⟩, .inr ⟨i + 1, hii, hJx1⟩⟩
    | cons p ta =>
      cases rb with
      | nil =>
        obtain ⟨n, hn'⟩ : ∃ n, ta.length = n := ⟨_, rfl⟩
        obtain rfl : na = n + 1 := by rw [hna]; simp [hn']
        obtain ⟨ac, rfl, a0, a1⟩ := lab_head hRa
        have ca0 := pw_cell_below hBr a0
        have ca1 := pw_cell_below hBr a1
        have lta : ac.block < wr.heap.size := World.block_lt_of_cell? wr _ ca0
        have hn1 : n + 1 ≤ 1000000 := by simp [hn'] at hlen'; omega
        have x1 : ((n : Int) + 1 == 0) = false := by rw [beq_eq_false_iff_ne]; omega
        have x2 : decide ((n : Int) + 1 > 0) = true := decide_eq_true (by omega)
        obtain ⟨Ra', hRa'⟩ : ∃ A', (if da = 1 then some ac else (some ac).map (·.add 2)) = A' := ⟨_, rfl⟩
        have cuta : ∀ W, (Instr.slice 24 (.slice (some ac) (n + 1) da) (some (.int .i64 1)) none none).run Try.prog W = .ok (.slice Ra' n (da - 1)) W := fun W => by have := lab_cut (some ac) (n + 1) da (by omega) W; rw [hRa'] at this; simpa using this
        have hta := lab_tail hRa hda
        rw [hRa'] at hta
        clear hRa'
        obtain rfl : nb = 0 := by rw [hnb]; simp
        obtain ⟨hx, hm2⟩ := drop_cons (show (mergeB la lb).drop i = (p.1, (p.2, 2)) :: mergeB ta [] by rw [← hm]; simp [mergeB])
        have h1 := blk_cell hba' 0
        have h2 := blk_cell hbb' 0
        have f1 := blk_frozen hba' 0
        have f2 := blk_frozen hbb' 0
        simp only [List.getElem?_toArray, List.getElem?_cons_zero] at h1 h2
        have lt1 := blk_lt hba'
        have lt2 := blk_lt hbb'
        have hii : i + 1 ≤ (mergeB la lb).length := by have := (List.getElem?_eq_some_iff.1 hx).1; omega
        have HA := Lib.hid hba'
        have HB := Lib.hid hbb'
        have HX := Lib.hid hx
        have HM2 := Lib.hid hm2
        have HN := Lib.hid hn'
        have HY := Lib.hid hY
        have HJ := Lib.hid hJ
        clear hba' hbb' hm hx hm2 hn'  hnb hna hY hJ hJx hA hBx
        gi_wp2_with fail
        refine wpIn_wide.2 ?_
        go_big_quiet (fail)
        gi_wp2_with fail
        refine wpIn_wide.2 ?_
        go_big_quiet (fail)
        gi_wp2_with fail
        refine wpIn_wide.2 ?_
        go_region
        gi_wp2_with fail
        refine yield_upon (HY.out i (p.1, (p.2, 2)) _ HX.out (HJ.out _ _ _ hJi ?ev)) ?_
        case ev => first | exact (by repeat (first | with_reducible (exact EvB.refl _ _) | with_reducible (apply EvB.alloc) | with_reducible (apply EvB.drew) | with_reducible (apply EvB.drewN) | (with_reducible (refine EvB.set ?_ ?_ _ _); rotate_left; (first | exact Or.inl rfl | exact Or.inr rfl)) | (with_reducible (refine EvB.fresh ?_ ?_ _ _); rotate_left; omega))) | skip
        rintro e W1 (⟨rfl, hJ1, hK1⟩ | ⟨rfl, hJx1⟩)
        · refine ⟨_, rfl, ?_⟩
          gi_wp2_with fail
          have B1 : Below w0.heap.size w0 W1 := Below.trans (show Below w0.heap.size w0 _ from (by repeat (first | with_reducible (exact hBr) | with_reducible (apply below_alloc) | with_reducible (apply below_drew1) | with_reducible (apply pw_below_drewN) | (with_reducible (refine bel_set ?_ ?_ _ _); rotate_left; omega)))) (hK1.to_below (fun k hk => .inl hk) (by have := hBr.size; simp [World.setCell]; omega))
          go_roundg (ta.length + ([] : Lab).length)
          case rel => exact ⟨ta, ([] : Lab), i + 1, Ra', Rb, n, 0, (da - 1), db, HM2.out.symm, hii, rfl, by simp at hlen' ⊢; omega, hK1.blk (by repeat (first | with_reducible (exact HA.out) | with_reducible (refine blk_alloc ?_ _) | with_reducible (refine blk_drewN ?_ _) | with_reducible (refine blk_drew ?_) | with_reducible (apply blk_set1) | with_reducible (refine blk_far' ?_ (by omega) _ _))) (.inr (.inl rfl)), hK1.blk (by repeat (first | with_reducible (exact HB.out) | with_reducible (refine blk_alloc ?_ _) | with_reducible (refine blk_drewN ?_ _) | with_reducible (refine blk_drew ?_) | with_reducible (apply blk_set1) | with_reducible (refine blk_far' ?_ (by omega) _ _))) (.inr (.inr rfl)), HN.out.symm, rfl, by simp at hda; omega, hdb, hta, hRb, hJ1, B1⟩
          case measure => first | omega | (simp; done) | (simp; omega)
        · refine ⟨_, rfl, ?_⟩
          gi_wp2_with fail
          refine bodyPost_ret (results_none rfl _ _ _) rfl ?_
          exact ⟨⟨_, rfl⟩, .inr ⟨i + 1, hii, hJx1⟩⟩
      | cons q tb =>
        by_cases hpq : p.1 < q.1
        · obtain ⟨n, hn'⟩ : ∃ n, ta.length = n := ⟨_, rfl⟩
          obtain rfl : na = n + 1 := by rw [hna]; simp [hn']
          obtain ⟨ac, rfl, a0, a1⟩ := lab_head hRa
          have ca0 := pw_cell_below hBr a0
          have ca1 := pw_cell_below hBr a1
          have lta : ac.block < wr.heap.size := World.block_lt_of_cell? wr _ ca0
          have hn1 : n + 1 ≤ 1000000 := by simp [hn'] at hlen'; omega
          have x1 : ((n : Int) + 1 == 0) = false := by rw [beq_eq_false_iff_ne]; omega
          have x2 : decide ((n : Int) + 1 > 0) = true := decide_eq_true (by omega)
          obtain ⟨Ra', hRa'⟩ : ∃ A', (if da = 1 then some ac else (some ac).map (·.add 2)) = A' := ⟨_, rfl⟩
          have cuta : ∀ W, (Instr.slice 24 (.slice (some ac) (n + 1) da) (some (.int .i64 1)) none none).run Try.prog W = .ok (.slice Ra' n (da - 1)) W := fun W => by have := lab_cut (some ac) (n + 1) da (by omega) W; rw [hRa'] at this; simpa using this
          have hta := lab_tail hRa hda
          rw [hRa'] at hta
          clear hRa'
          obtain ⟨m, hm'⟩ : ∃ m, tb.length = m := ⟨_, rfl⟩
          obtain rfl : nb = m + 1 := by rw [hnb]; simp [hm']
          obtain ⟨bc, rfl, b0, b1⟩ := lab_head hRb
          have cb0 := pw_cell_below hBr b0
          have cb1 := pw_cell_below hBr b1
          have ltb : bc.block < wr.heap.size := World.block_lt_of_cell? wr _ cb0
          have hm1 : m + 1 ≤ 1000000 := by simp [hm'] at hlen'; omega
          have y1 : ((m : Int) + 1 == 0) = false := by rw [beq_eq_false_iff_ne]; omega
          have y2 : decide ((m : Int) + 1 > 0) = true := decide_eq_true (by omega)
          have z1 : decide ((n : Int) + 1 + ((m : Int) + 1) > 0) = true := decide_eq_true (by omega)
          have g1 : decide (p.1 < q.1) = true := decide_eq_true hpq
          have g2 : decide (p.1 ≤ q.1) = true := decide_eq_true (by omega)
          have g3 : decide (q.1 < p.1) = false := decide_eq_false (by omega)
          have g4 : decide (q.1 ≤ p.1) = false := decide_eq_false (by omega)
          have g5 : decide (p.1 = q.1) = false := decide_eq_false (by omega)
          have g6 : (p.1 == q.1) = false := by rw [beq_eq_false_iff_ne]; omega
          obtain ⟨hx, hm2⟩ := drop_cons (show (mergeB la lb).drop i = (p.1, (p.2, 2)) :: mergeB ta (q :: tb) by rw [← hm]; rw [mergeB]; simp [hpq])
          have h1 := blk_cell hba' 0
          have h2 := blk_cell hbb' 0
          have f1 := blk_frozen hba' 0
          have f2 := blk_frozen hbb' 0
          simp only [List.getElem?_toArray, List.getElem?_cons_zero] at h1 h2
          have lt1 := blk_lt hba'
          have lt2 := blk_lt hbb'
          have hii : i + 1 ≤ (mergeB la lb).length := by have := (List.getElem?_eq_some_iff.1 hx).1; omega
          have HA := Lib.hid hba'
          have HB := Lib.hid hbb'
          have HX := Lib.hid hx
          have HM2 := Lib.hid hm2
          have HN := Lib.hid hn'
          have HM := Lib.hid hm'
          have HY := Lib.hid hY
          have HJ := Lib.hid hJ
          clear hba' hbb' hm hx hm2 hn' hm' hnb hna hY hJ hJx hA hBx
          gi_wp2_with fail
          refine wpIn_wide.2 ?_
          go_big_quiet (fail)
          gi_wp2_with fail
          refine wpIn_wide.2 ?_
          go_big_quiet (fail)
          gi_wp2_with fail
          refine wpIn_wide.2 ?_
          go_region
          gi_wp2_with fail
          refine yield_upon (HY.out i (p.1, (p.2, 2)) _ HX.out (HJ.out _ _ _ hJi ?ev)) ?_
          case ev => first | exact (by repeat (first | with_reducible (exact EvB.refl _ _) | with_reducible (apply EvB.alloc) | with_reducible (apply EvB.drew) | with_reducible (apply EvB.drewN) | (with_reducible (refine EvB.set ?_ ?_ _ _); rotate_left; (first | exact Or.inl rfl | exact Or.inr rfl)) | (with_reducible (refine EvB.fresh ?_ ?_ _ _); rotate_left; omega))) | skip
          rintro e W1 (⟨rfl, hJ1, hK1⟩ | ⟨rfl, hJx1⟩)
          · refine ⟨_, rfl, ?_⟩
            gi_wp2_with fail
            have B1 : Below w0.heap.size w0 W1 := Below.trans (show Below w0.heap.size w0 _ from (by repeat (first | with_reducible (exact hBr) | with_reducible (apply below_alloc) | with_reducible (apply below_drew1) | with_reducible (apply pw_below_drewN) | (with_reducible (refine bel_set ?_ ?_ _ _); rotate_left; omega)))) (hK1.to_below (fun k hk => .inl hk) (by have := hBr.size; simp [World.setCell]; omega))
            go_roundg (ta.length + (q :: tb).length)
            case rel => exact ⟨ta, (q :: tb), i + 1, Ra', (some bc), n, (m + 1), (da - 1), db, HM2.out.symm, hii, rfl, by simp at hlen' ⊢; omega, hK1.blk (by repeat (first | with_reducible (exact HA.out) | with_reducible (refine blk_alloc ?_ _) | with_reducible (refine blk_drewN ?_ _) | with_reducible (refine blk_drew ?_) | with_reducible (apply blk_set1) | with_reducible (refine blk_far' ?_ (by omega) _ _))) (.inr (.inl rfl)), hK1.blk (by repeat (first | with_reducible (exact HB.out) | with_reducible (refine blk_alloc ?_ _) | with_reducible (refine blk_drewN ?_ _) | with_reducible (refine blk_drew ?_) | with_reducible (apply blk_set1) | with_reducible (refine blk_far' ?_ (by omega) _ _))) (.inr (.inr rfl)), HN.out.symm, by simp; exact HM.out.symm, by simp at hda; omega, hdb, hta, hRb, hJ1, B1⟩
            case measure => first | omega | (simp; done) | (simp; omega)
          · refine ⟨_, rfl, ?_⟩
            gi_wp2_with fail
            refine bodyPost_ret (results_none rfl _ _ _) rfl ?_
            exact ⟨⟨_, rfl⟩, .inr ⟨i + 1, hii, hJx1⟩⟩
        by_cases hqp : q.1 < p.1
        · obtain ⟨n, hn'⟩ : ∃ n, ta.length = n := ⟨_, rfl⟩
          obtain rfl : na = n + 1 := by rw [hna]; simp [hn']
          obtain ⟨ac, rfl, a0, a1⟩ := lab_head hRa
          have ca0 := pw_cell_below hBr a0
          have ca1 := pw_cell_below hBr a1
          have lta : ac.block < wr.heap.size := World.block_lt_of_cell? wr _ ca0
          have hn1 : n + 1 ≤ 1000000 := by simp [hn'] at hlen'; omega
          have x1 : ((n : Int) + 1 == 0) = false := by rw [beq_eq_false_iff_ne]; omega
          have x2 : decide ((n : Int) + 1 > 0) = true := decide_eq_true (by omega)
          obtain ⟨m, hm'⟩ : ∃ m, tb.length = m := ⟨_, rfl⟩
          obtain rfl : nb = m + 1 := by rw [hnb]; simp [hm']
          obtain ⟨bc, rfl, b0, b1⟩ := lab_head hRb
          have cb0 := pw_cell_below hBr b0
          have cb1 := pw_cell_below hBr b1
          have ltb : bc.block < wr.heap.size := World.block_lt_of_cell? wr _ cb0
          have hm1 : m + 1 ≤ 1000000 := by simp [hm'] at hlen'; omega
          have y1 : ((m : Int) + 1 == 0) = false := by rw [beq_eq_false_iff_ne]; omega
          have y2 : decide ((m : Int) + 1 > 0) = true := decide_eq_true (by omega)
          obtain ⟨Rb', hRb'⟩ : ∃ A', (if db = 1 then some bc else (some bc).map (·.add 2)) = A' := ⟨_, rfl⟩
          have cutb : ∀ W, (Instr.slice 24 (.slice (some bc) (m + 1) db) (some (.int .i64 1)) none none).run Try.prog W = .ok (.slice Rb' m (db - 1)) W := fun W => by have := lab_cut (some bc) (m + 1) db (by omega) W; rw [hRb'] at this; simpa using this
          have htb := lab_tail hRb hdb
          rw [hRb'] at htb
          clear hRb'
          have z1 : decide ((n : Int) + 1 + ((m : Int) + 1) > 0) = true := decide_eq_true (by omega)
          have g1 : decide (q.1 < p.1) = true := decide_eq_true hqp
          have g2 : decide (q.1 ≤ p.1) = true := decide_eq_true (by omega)
          have g3 : decide (p.1 < q.1) = false := decide_eq_false (by omega)
          have g4 : decide (p.1 ≤ q.1) = false := decide_eq_false (by omega)
          have g5 : decide (p.1 = q.1) = false := decide_eq_false (by omega)
          have g6 : (p.1 == q.1) = false := by rw [beq_eq_false_iff_ne]; omega
          obtain ⟨hx, hm2⟩ := drop_cons (show (mergeB la lb).drop i = (q.1, (2, q.2)) :: mergeB (p :: ta) tb by rw [← hm]; rw [mergeB]; simp [hpq, hqp])
          have h1 := blk_cell hba' 0
          have h2 := blk_cell hbb' 0
          have f1 := blk_frozen hba' 0
          have f2 := blk_frozen hbb' 0
          simp only [List.getElem?_toArray, List.getElem?_cons_zero] at h1 h2
          have lt1 := blk_lt hba'
          have lt2 := blk_lt hbb'
          have hii : i + 1 ≤ (mergeB la lb).length := by have := (List.getElem?_eq_some_iff.1 hx).1; omega
          have HA := Lib.hid hba'
          have HB := Lib.hid hbb'
          have HX := Lib.hid hx
          have HM2 := Lib.hid hm2
          have HN := Lib.hid hn'
          have HM := Lib.hid hm'
          have HY := Lib.hid hY
          have HJ := Lib.hid hJ
          clear hba' hbb' hm hx hm2 hn' hm' hnb hna hY hJ hJx hA hBx
          gi_wp2_with fail
          refine wpIn_wide.2 ?_
          go_big_quiet (fail)
          gi_wp2_with fail
          refine wpIn_wide.2 ?_
          go_big_quiet (fail)
          gi_wp2_with fail
          refine wpIn_wide.2 ?_
          go_region
          gi_wp2_with fail
          refine yield_upon (HY.out i (q.1, (2, q.2)) _ HX.out (HJ.out _ _ _ hJi ?ev)) ?_
          case ev => first | exact (by repeat (first | with_reducible (exact EvB.refl _ _) | with_reducible (apply EvB.alloc) | with_reducible (apply EvB.drew) | with_reducible (apply EvB.drewN) | (with_reducible (refine EvB.set ?_ ?_ _ _); rotate_left; (first | exact Or.inl rfl | exact Or.inr rfl)) | (with_reducible (refine EvB.fresh ?_ ?_ _ _); rotate_left; omega))) | skip
          rintro e W1 (⟨rfl, hJ1, hK1⟩ | ⟨rfl, hJx1⟩)
          · refine ⟨_, rfl, ?_⟩
            gi_wp2_with fail
            have B1 : Below w0.heap.size w0 W1 := Below.trans (show Below w0.heap.size w0 _ from (by repeat (first | with_reducible (exact hBr) | with_reducible (apply below_alloc) | with_reducible (apply below_drew1) | with_reducible (apply pw_below_drewN) | (with_reducible (refine bel_set ?_ ?_ _ _); rotate_left; omega)))) (hK1.to_below (fun k hk => .inl hk) (by have := hBr.size; simp [World.setCell]; omega))
            go_roundg ((p :: ta).length + tb.length)
            case rel => exact ⟨(p :: ta), tb, i + 1, (some ac), Rb', (n + 1), m, da, (db - 1), HM2.out.symm, hii, rfl, by simp at hlen' ⊢; omega, hK1.blk (by repeat (first | with_reducible (exact HA.out) | with_reducible (refine blk_alloc ?_ _) | with_reducible (refine blk_drewN ?_ _) | with_reducible (refine blk_drew ?_) | with_reducible (apply blk_set1) | with_reducible (refine blk_far' ?_ (by omega) _ _))) (.inr (.inl rfl)), hK1.blk (by repeat (first | with_reducible (exact HB.out) | with_reducible (refine blk_alloc ?_ _) | with_reducible (refine blk_drewN ?_ _) | with_reducible (refine blk_drew ?_) | with_reducible (apply blk_set1) | with_reducible (refine blk_far' ?_ (by omega) _ _))) (.inr (.inr rfl)), by simp; exact HN.out.symm, HM.out.symm, hda, by simp at hdb; omega, hRa, htb, hJ1, B1⟩
            case measure => first | omega | (simp; done) | (simp; omega)
          · refine ⟨_, rfl, ?_⟩
            gi_wp2_with fail
            refine bodyPost_ret (results_none rfl _ _ _) rfl ?_
            exact ⟨⟨_, rfl⟩, .inr ⟨i + 1, hii, hJx1⟩⟩
        obtain ⟨n, hn'⟩ : ∃ n, ta.length = n := ⟨_, rfl⟩
        obtain rfl : na = n + 1 := by rw [hna]; simp [hn']
        obtain ⟨ac, rfl, a0, a1⟩ := lab_head hRa
        have ca0 := pw_cell_below hBr a0
        have ca1 := pw_cell_below hBr a1
        have lta : ac.block < wr.heap.size := World.block_lt_of_cell? wr _ ca0
        have hn1 : n + 1 ≤ 1000000 := by simp [hn'] at hlen'; omega
        have x1 : ((n : Int) + 1 == 0) = false := by rw [beq_eq_false_iff_ne]; omega
        have x2 : decide ((n : Int) + 1 > 0) = true := decide_eq_true (by omega)
        obtain ⟨Ra', hRa'⟩ : ∃ A', (if da = 1 then some ac else (some ac).map (·.add 2)) = A' := ⟨_, rfl⟩
        have cuta : ∀ W, (Instr.slice 24 (.slice (some ac) (n + 1) da) (some (.int .i64 1)) none none).run Try.prog W = .ok (.slice Ra' n (da - 1)) W := fun W => by have := lab_cut (some ac) (n + 1) da (by omega) W; rw [hRa'] at this; simpa using this
        have hta := lab_tail hRa hda
        rw [hRa'] at hta
        clear hRa'
        obtain ⟨m, hm'⟩ : ∃ m, tb.length = m := ⟨_, rfl⟩
        obtain rfl : nb = m + 1 := by rw [hnb]; simp [hm']
        obtain ⟨bc, rfl, b0, b1⟩ := lab_head hRb
        have cb0 := pw_cell_below hBr b0
        have cb1 := pw_cell_below hBr b1
        have ltb : bc.block < wr.heap.size := World.block_lt_of_cell? wr _ cb0
        have hm1 : m + 1 ≤ 1000000 := by simp [hm'] at hlen'; omega
        have y1 : ((m : Int) + 1 == 0) = false := by rw [beq_eq_false_iff_ne]; omega
        have y2 : decide ((m : Int) + 1 > 0) = true := decide_eq_true (by omega)
        obtain ⟨Rb', hRb'⟩ : ∃ A', (if db = 1 then some bc else (some bc).map (·.add 2)) = A' := ⟨_, rfl⟩
        have cutb : ∀ W, (Instr.slice 24 (.slice (some bc) (m + 1) db) (some (.int .i64 1)) none none).run Try.prog W = .ok (.slice Rb' m (db - 1)) W := fun W => by have := lab_cut (some bc) (m + 1) db (by omega) W; rw [hRb'] at this; simpa using this
        have htb := lab_tail hRb hdb
        rw [hRb'] at htb
        clear hRb'
        have z1 : decide ((n : Int) + 1 + ((m : Int) + 1) > 0) = true := decide_eq_true (by omega)
        have lb0 : bc.block < w0.heap.size := World.block_lt_of_cell? w0 _ b0
        have nb1 : bc.block ≠ ba := by omega
        have nb2 : ba ≠ bc.block := by omega
        have nb3 : bc.block ≠ bb := by omega
        have hpq3 : p.1 = q.1 := by omega
        have g1 : decide (p.1 < q.1) = false := decide_eq_false (by omega)
        have g2 : decide (p.1 ≤ q.1) = true := decide_eq_true (by omega)
        have g3 : decide (q.1 < p.1) = false := decide_eq_false (by omega)
        have g4 : decide (q.1 ≤ p.1) = true := decide_eq_true (by omega)
        have g5 : decide (p.1 = q.1) = true := decide_eq_true (by omega)
        have g6 : (p.1 == q.1) = true := by rw [beq_iff_eq]; omega
        obtain ⟨hx, hm2⟩ := drop_cons (show (mergeB la lb).drop i = (q.1, (p.2, q.2)) :: mergeB ta tb by rw [← hm]; rw [mergeB]; simp [hpq, hqp])
        have h1 := blk_cell hba' 0
        have h2 := blk_cell hbb' 0
        have f1 := blk_frozen hba' 0
        have f2 := blk_frozen hbb' 0
        simp only [List.getElem?_toArray, List.getElem?_cons_zero] at h1 h2
        have lt1 := blk_lt hba'
        have lt2 := blk_lt hbb'
        have hii : i + 1 ≤ (mergeB la lb).length := by have := (List.getElem?_eq_some_iff.1 hx).1; omega
        have HA := Lib.hid hba'
        have HB := Lib.hid hbb'
        have HX := Lib.hid hx
        have HM2 := Lib.hid hm2
        have HN := Lib.hid hn'
        have HM := Lib.hid hm'
        have HY := Lib.hid hY
        have HJ := Lib.hid hJ
        clear hba' hbb' hm hx hm2 hn' hm' hnb hna hY hJ hJx hA hBx
        gi_wp2_with fail
        refine wpIn_wide.2 ?_
        go_big_quiet (fail)
        gi_wp2_with fail
        refine wpIn_wide.2 ?_
        go_big_quiet (fail)
        gi_wp2_with fail
        refine wpIn_wide.2 ?_
        go_region
        gi_wp2_with fail
        refine wpIn_wide.2 ?_
        refine w_abs (p := fun W => Code.wp _ _ _ _ W) _ (fun W2 hW2 => ?_)
        have H2 : W2.heap[bb]? = some (.cells #[.slice (some bc) (m + 1) db] 24 (0, 0)) := by rw [hW2]; exact (by repeat (first | with_reducible (exact HB.out) | with_reducible (refine blk_alloc ?_ _) | with_reducible (refine blk_drewN ?_ _) | with_reducible (refine blk_drew ?_) | with_reducible (apply blk_set1) | with_reducible (refine blk_far' ?_ (by omega) _ _)))
        have HX2 : W2.heap[wr.heap.size]? = some (.cells #[.int .i64 p.2, .int .i64 2] 168 (0, 0)) := by rw [hW2]; exact (by repeat (first | with_reducible (exact blk_new _ _) | with_reducible (apply blk_drewN) | with_reducible (apply blk_drew) | with_reducible (apply blk_set2a) | with_reducible (refine blk_far' ?_ (by omega) _ _)))
        have B2 : Below w0.heap.size w0 W2 := by rw [hW2]; exact (by repeat (first | with_reducible (exact hBr) | with_reducible (apply below_alloc) | with_reducible (apply below_drew1) | with_reducible (apply pw_below_drewN) | (with_reducible (refine bel_set ?_ ?_ _ _); rotate_left; omega)))
        have c1 := blk_cell H2 0
        have c2 := blk_frozen H2 0
        have c3 := blk_cell HX2 1
        have c4 := blk_frozen HX2 1
        have c5 := pw_cell_below B2 b0
        have c6 := pw_cell_below B2 b1
        have c7 := blk_lt H2
        have c8 := blk_lt HX2
        have c9 := blk_cell HX2 0
        simp only [List.getElem?_toArray, List.getElem?_cons_zero, List.getElem?_cons_succ] at c1 c3 c9
        have HW2 := Lib.hid hW2
        have HH2 := Lib.hid H2
        have HHX2 := Lib.hid HX2
        have HB2 := Lib.hid B2
        clear hW2 H2 HX2 B2 h1 h2 f1 f2 ca0 ca1 cb0 cb1
        go_region
        gi_wp2_with fail
        obtain rfl := HW2.out
        refine yield_upon (HY.out i (q.1, (p.2, q.2)) _ HX.out (HJ.out _ _ _ hJi ?ev)) ?_
        case ev => first | exact (by repeat (first | with_reducible (exact EvB.refl _ _) | with_reducible (apply EvB.alloc) | with_reducible (apply EvB.drew) | with_reducible (apply EvB.drewN) | (with_reducible (refine EvB.set ?_ ?_ _ _); rotate_left; (first | exact Or.inl rfl | exact Or.inr rfl)) | (with_reducible (refine EvB.fresh ?_ ?_ _ _); rotate_left; omega))) | skip
        rintro e W1 (⟨rfl, hJ1, hK1⟩ | ⟨rfl, hJx1⟩)
        · refine ⟨_, rfl, ?_⟩
          gi_wp2_with fail
          have B1 : Below w0.heap.size w0 W1 := Below.trans (show Below w0.heap.size w0 _ from (by repeat (first | with_reducible (exact hBr) | with_reducible (apply below_alloc) | with_reducible (apply below_drew1) | with_reducible (apply pw_below_drewN) | (with_reducible (refine bel_set ?_ ?_ _ _); rotate_left; omega)))) (hK1.to_below (fun k hk => .inl hk) (by have := hBr.size; simp [World.setCell]; omega))
          go_roundg (ta.length + tb.length)
          case rel => exact ⟨ta, tb, i + 1, Ra', Rb', n, m, (da - 1), (db - 1), HM2.out.symm, hii, rfl, by simp at hlen' ⊢; omega, hK1.blk (by repeat (first | with_reducible (exact HA.out) | with_reducible (refine blk_alloc ?_ _) | with_reducible (refine blk_drewN ?_ _) | with_reducible (refine blk_drew ?_) | with_reducible (apply blk_set1) | with_reducible (refine blk_far' ?_ (by omega) _ _))) (.inr (.inl rfl)), hK1.blk (by repeat (first | with_reducible (exact HB.out) | with_reducible (refine blk_alloc ?_ _) | with_reducible (refine blk_drewN ?_ _) | with_reducible (refine blk_drew ?_) | with_reducible (apply blk_set1) | with_reducible (refine blk_far' ?_ (by omega) _ _))) (.inr (.inr rfl)), HN.out.symm, HM.out.symm, by simp at hda; omega, by simp at hdb; omega, hta, htb, hJ1, B1⟩
          case measure => first | omega | (simp; done) | (simp; omega)
        · refine ⟨_, rfl, ?_⟩
          gi_wp2_with fail
          refine bodyPost_ret (results_none rfl _ _ _) rfl ?_
          exact ⟨⟨_, rfl⟩, .inr ⟨i + 1, hii, hJx1⟩⟩
end Go.Proofs.Ytggkjfllbfcagaa
