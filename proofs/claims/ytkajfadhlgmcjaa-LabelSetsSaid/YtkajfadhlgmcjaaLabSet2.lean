import Derived.Test.YtkajfadhlgmcjaaLabSet
namespace Go.Proofs.Ytkajfadhlgmcjaa
open Go Go.RowKit Go.Shelf Go.Proofs.YtkajfadhlgmcjaaW.PrintWords Go.Proofs.YtkajfadhlgmcjaaW.PrintLast Go.Proofs.YtkajfadhlgmcjaaW.PrintMore
set_option linter.unusedVariables false
set_option linter.unusedSimpArgs false
theorem levfit_b {a : Int} {b : Bool} (h : levB a = b) (w : World) : Calls Try.prog 81 #[.int .i64 a] w fun e w' => e = .returned (.bool b) ∧ w' = w := by
  rw [← h]; exact levfit_calls a w
theorem at_b {l : Lab} {A : Option Addr} {cap n k : Nat} {c : Int} {b : Bool} (hn : n = l.length) (hcap : n ≤ cap) (hs : Sorted l) (hlen : n ≤ 1000) (hk : k = posB l c) (hh : hitB l c k = b) (w : World) (hC : kPr.C w A l.length l) :
    Calls Try.prog 62 #[.slice A n cap, .int .u64 c] w fun e w' => e = .returned (.tuple #[.int .i64 k, .bool b]) ∧ Below w.heap.size w w' := by
  subst hn
  refine (label_at_calls l A cap c w hC hcap hs (by omega)).mono ?_
  rintro e w1 ⟨k', hsp, rfl, hb⟩
  have := spot_pos hsp
  rw [← hk] at this
  subst this
  rw [hh]
  exact ⟨rfl, hb⟩
theorem clone_b {l : Lab} {A : Option Addr} {cap n : Nat} (hn : n = l.length) (hcap : n ≤ cap) (hlen : n ≤ 1000) (w : World) (hC : kPr.C w A l.length l) :
    Calls Try.prog 82 #[.slice A n cap] w fun e w' => ∃ A0 c0, e = .returned (.slice A0 n c0) ∧ Kd.R kPr 46 w' w.heap.size (fun _ => True) (.slice A0 n c0) l ∧ Below w.heap.size w w' := by
  subst hn
  refine (clonePair_calls l A cap w hC hcap (by omega)).mono ?_
  rintro e w1 ⟨v, rfl, hr, hb⟩
  obtain ⟨A0, c0, rfl⟩ := Kd.R_slice hr
  exact ⟨A0, c0, rfl, hr, hb⟩
theorem delete_b {l : Lab} {A0 : Option Addr} {c0 n k m base : Nat} (hn : n = l.length) (hk : k < n) (hlen : n ≤ 1000) (hm : m = (l.eraseIdx k).length) (w : World) (HR : Kd.R kPr 46 w base (fun _ => True) (.slice A0 n c0) l) :
    Calls Try.prog 83 #[.slice A0 n c0, .int .i64 k, .int .i64 ((k : Int) + 1)] w fun e w' => ∃ A1 c1, e = .returned (.slice A1 m c1) ∧ Kd.R kPr 46 w' base (fun _ => True) (.slice A1 m c1) (l.eraseIdx k) ∧ Below base w w' := by
  subst hn
  refine (deletePair_calls l _ k base _ w HR hk (by omega)).mono ?_
  rintro e w1 ⟨v, rfl, hr, hb⟩
  obtain ⟨A1, c1, rfl⟩ := Kd.R_slice hr
  rw [← hm] at *
  exact ⟨A1, c1, rfl, hr, hb⟩
theorem insert_b {l : Lab} {A0 : Option Addr} {c0 n k m base vb : Nat} {c v : Int} (hn : n = l.length) (hk : k ≤ n) (hlen : n ≤ 1000) (hm : m = (l.take k ++ (c, v) :: l.drop k).length) (w : World) (HR : Kd.R kPr 46 w base (fun _ => True) (.slice A0 n c0) l)
    (hvb : w.heap[vb]? = some (.cells #[.int .u64 c, .int .i64 v] 46 (0, 0))) (hne : (Value.slice A0 n c0).ownBlock ≠ some vb) (hbase : base ≤ w.heap.size) :
    Calls Try.prog 84 #[.slice A0 n c0, .int .i64 k, .slice (some ⟨vb, 0, none⟩) 1 1] w fun e w' => ∃ A1 c1, e = .returned (.slice A1 m c1) ∧ Kd.R kPr 46 w' base (fun _ => True) (.slice A1 m c1) (l.take k ++ (c, v) :: l.drop k) ∧ Below base w w' := by
  subst hn
  refine (insertPair_calls l _ k (c, v) vb base _ w HR hk hvb hne hbase (by omega)).mono ?_
  rintro e w1 ⟨v', rfl, hr, hb⟩
  obtain ⟨A1, c1, rfl⟩ := Kd.R_slice hr
  rw [← hm] at *
  exact ⟨A1, c1, rfl, hr, hb⟩
theorem flat_set (l : Lab) (k : Nat) (hk : k < l.length) (v : Int) : (flat encPair l).set (k * 2 + 1) (.int .i64 v) = flat encPair (l.set k (l[k].1, v)) := by
  induction l generalizing k with
  | nil => simp at hk
  | cons p t ih =>
    cases k with
    | zero => rfl
    | succ k =>
      have := ih k (by simpa using hk)
      rw [show (k + 1) * 2 + 1 = k * 2 + 1 + 1 + 1 by omega]
      simp only [flat_cons, encPair, List.cons_append, List.nil_append, List.set_cons_succ, List.getElem_cons_succ, this]
theorem clone_c {l : Lab} {A : Option Addr} {cap n k : Nat} {c v : Int} (hn : n = l.length) (hcap : n ≤ cap) (hlen : n ≤ 1000) (hk : k < n) (hh : hitB l c k = true) (w : World) (hC : kPr.C w A l.length l) :
    Calls Try.prog 82 #[.slice A n cap] w fun e w' => ∃ g c0 u, e = .returned (.slice (some ⟨g, 0, none⟩) n c0) ∧ n ≤ c0 ∧ w'.cell? ⟨g, k * 2 + 1, none⟩ = some u ∧ w'.frozen? ⟨g, k * 2 + 1, none⟩ = false ∧
      Kd.R kPr 46 (w'.setCell ⟨g, k * 2 + 1, none⟩ (.int .i64 v)) w.heap.size (fun _ => True) (.slice (some ⟨g, 0, none⟩) n c0) (l.set k (c, v)) ∧ Below w.heap.size w (w'.setCell ⟨g, k * 2 + 1, none⟩ (.int .i64 v)) := by
  refine (clone_b hn hcap hlen w hC).mono ?_
  rintro e w1 ⟨A0, c0, rfl, hr, hb⟩
  obtain ⟨_, hcase⟩ := R_flat flatPair hr
  rcases hcase with ⟨_, h0⟩ | ⟨g, c', cur, e, hbg, hg, hnc, hcm, hcs, htake⟩
  · omega
  injection e with e1 _ e3
  subst e1; subst e3
  have hsz : kPr.sz = 2 := rfl
  rw [hsz] at hcs htake
  have hi : k * 2 + 1 < cur.size := by omega
  have e2 := setCell_eq_setRow w1 g (k * 2 + 1) cur 46 (0, 0) (.int .i64 v) hg
  obtain ⟨hkl, hkc⟩ := of_decide_eq_true hh
  refine ⟨g, c0, cur[k * 2 + 1], rfl, by omega, ?_, blk_frozen hg _, ?_, ?_⟩
  · rw [cell_of_row _ g _ cur _ _ hg]; simp [hi]
  · rw [e2]
    have hl : (l.set k (c, v)).length = n := by rw [List.length_set, hn]
    have := flat_block flatPair (xs := l.set k (c, v)) (cap := c0) hbg (setRow_get w1 g cur (cur.setIfInBounds (k * 2 + 1) (.int .i64 v)) _ _ hg) (by omega) hcm (by rw [Array.size_setIfInBounds]; exact hcs) (by
      rw [hl, hsz, Array.toList_setIfInBounds, List.take_set, hn, htake, flat_set l k hkl, hkc])
    rw [hl] at this
    exact this
  · rw [e2]
    exact below_setRow hb g _ hbg
theorem set_len (l : Lab) (c v : Int) : (setB l c v).length ≤ l.length + 1 := by
  unfold setB
  have := posB_le l c
  split
  · split
    · have := List.length_eraseIdx_le l (posB l c); omega
    · omega
  · split
    · rw [List.length_set]; omega
    · rw [List.length_append, List.length_cons, List.length_take, List.length_drop]; omega
set_option maxRecDepth 100000 in
set_option maxHeartbeats 8000000 in
theorem set_calls (l : Lab) (A : Option Addr) (cap : Nat) (c v : Int) (w : World) (hC : kPr.C w A l.length l) (hcap : l.length ≤ cap) (hs : SortedP l) (hlen : l.length ≤ 1000) :
    Calls Try.prog 55 #[.slice A l.length cap, .int .u64 c, .int .i64 v] w fun e w' => ∃ v', e = .returned (.tuple #[v', .int .i64 (setR l c v).2]) ∧ ((v' = .slice A l.length cap ∧ (setR l c v).1 = l) ∨ Kd.R kPr 46 w' w.heap.size (fun _ => True) v' (setR l c v).1) ∧ Below w.heap.size w w' := by
  have hs' := sorted_iff.2 hs
  obtain ⟨n, hn⟩ : ∃ n, n = l.length := ⟨_, rfl⟩
  have HC := Lib.hid hC
  have HN := Lib.hid hn
  have HS' := Lib.hid hs'
  cases hl : levB v with
  | false =>
    have HS : Hid (setR l c v = (l, 4)) := Lib.hid (by unfold setR; rw [hl]; rfl)
    have HL := Lib.hid hl
    rw [← hn]
    rw [← hn] at hlen hcap
    clear hC hn hs hs' hl
    go_enter Try.func55, Try.ntmps55
    go_wp2_with (go_at_call 81; refine (levfit_b HL.out _).mono ?_; rintro e w1 ⟨rfl, rfl⟩)
    refine bodyPost_ret (results_tmp2 rfl _ _ _) rfl ?_
    refine ⟨_, by rw [HS.out]; rfl, ?_, Below.refl _ _⟩
    exact .inl ⟨rfl, by rw [HS.out]⟩
  | true =>
    have HL := Lib.hid hl
    obtain ⟨k, hk⟩ : ∃ k, k = posB l c := ⟨_, rfl⟩
    have hkn : k ≤ n := by rw [hk, hn]; exact posB_le l c
    obtain ⟨m, hm⟩ : ∃ m, m = (setB l c v).length := ⟨_, rfl⟩
    have hml : m ≤ n + 1 := by rw [hm, hn]; exact set_len l c v
    have HM := Lib.hid hm
    have HK := Lib.hid hk
    cases hh : hitB l c k with
    | true =>
      by_cases hv : v = 2
      · by_cases hbig : m > 16
        · subst hv
          have hvt : ((2 : Int) == 2) = true := rfl
          have HE : Hid (setB l c 2 = l.eraseIdx k) := Lib.hid (by unfold setB; rw [if_pos rfl, ← hk, hh]; rfl)
          have HS : Hid (setR l c 2 = (l, 6)) := Lib.hid (by unfold setR; rw [hl, if_pos rfl, if_pos (by omega)])
          have b1 : decide ((m : Int) > 16) = true := decide_eq_true (by omega)
          have b2 : decide (16 < (m : Int)) = true := b1
          have hkn2 : k < n := by have := of_decide_eq_true hh; rw [hn]; exact this.1
          have hki : (k : Int) < (n : Int) := by omega
          have hm2 : Hid (m = (l.eraseIdx k).length) := Lib.hid (by rw [hm, HE.out])
          rw [← hn]
          rw [← hn] at hlen hcap
          have hat := Lib.hid (at_b (A := A) (cap := cap) hn hcap hs' hlen hk hh)
          have hw1 : IntKind.i64.wrap ((k : Int) + 1) = (k : Int) + 1 := by rw [IntKind.wrap_i64]; omega
          have hkc : Hid (k ≤ n) := Lib.hid hkn
          have hlc : Hid (n ≤ 1000) := Lib.hid hlen
          have hcc : Hid (n ≤ cap) := Lib.hid hcap
          have hkc2 : Hid (k < n) := Lib.hid hkn2
          clear hC hn hs hs' hl hk hm hh hml
          go_enter Try.func55, Try.ntmps55
          go_wp2_with (first
            | (go_at_call 81; refine (levfit_b HL.out _).mono ?_; rintro e w0 ⟨rfl, rfl⟩)
            | (go_at_call 62; refine (hat.out _ HC.out).mono ?_; rintro e w1 ⟨rfl, hb⟩; have hB1 := Lib.hid hb; clear hb)
            | (go_at_call 82; refine (clone_b HN.out hcc.out hlc.out _ (Kd.C_below HC.out hB1.out)).mono ?_; rintro e w2 ⟨A0, c0, rfl, hr, hb⟩; have hR2 := Lib.hid hr; have hB2 := Lib.hid hb; clear hb hr)
            | (go_at_call 83; refine (delete_b HN.out hkc2.out hlc.out hm2.out _ hR2.out).mono ?_; rintro e w3 ⟨A1, c1, rfl, hr, hb⟩; have hR3 := Lib.hid hr; have hB3 := Lib.hid hb; clear hb hr))
          have hBf := below_step hB1.out (hB2.out.trans hB3.out)
          refine bodyPost_ret (results_tmp2 rfl _ _ _) rfl ?_
          refine ⟨_, by rw [HS.out]; rfl, ?_, hBf⟩
          rw [HS.out]
          exact .inl ⟨rfl, rfl⟩
        · subst hv
          have hvt : ((2 : Int) == 2) = true := rfl
          have HE : Hid (setB l c 2 = l.eraseIdx k) := Lib.hid (by unfold setB; rw [if_pos rfl, ← hk, hh]; rfl)
          have HS : Hid (setR l c 2 = (l.eraseIdx k, 0)) := Lib.hid (by unfold setR; rw [hl, if_pos rfl, if_neg (by omega), HE.out])
          have b1 : decide ((m : Int) > 16) = false := decide_eq_false (by omega)
          have b2 : decide (16 < (m : Int)) = false := b1
          have hkn2 : k < n := by have := of_decide_eq_true hh; rw [hn]; exact this.1
          have hki : (k : Int) < (n : Int) := by omega
          have hm2 : Hid (m = (l.eraseIdx k).length) := Lib.hid (by rw [hm, HE.out])
          rw [← hn]
          rw [← hn] at hlen hcap
          have hat := Lib.hid (at_b (A := A) (cap := cap) hn hcap hs' hlen hk hh)
          have hw1 : IntKind.i64.wrap ((k : Int) + 1) = (k : Int) + 1 := by rw [IntKind.wrap_i64]; omega
          have hkc : Hid (k ≤ n) := Lib.hid hkn
          have hlc : Hid (n ≤ 1000) := Lib.hid hlen
          have hcc : Hid (n ≤ cap) := Lib.hid hcap
          have hkc2 : Hid (k < n) := Lib.hid hkn2
          clear hC hn hs hs' hl hk hm hh hml
          go_enter Try.func55, Try.ntmps55
          go_wp2_with (first
            | (go_at_call 81; refine (levfit_b HL.out _).mono ?_; rintro e w0 ⟨rfl, rfl⟩)
            | (go_at_call 62; refine (hat.out _ HC.out).mono ?_; rintro e w1 ⟨rfl, hb⟩; have hB1 := Lib.hid hb; clear hb)
            | (go_at_call 82; refine (clone_b HN.out hcc.out hlc.out _ (Kd.C_below HC.out hB1.out)).mono ?_; rintro e w2 ⟨A0, c0, rfl, hr, hb⟩; have hR2 := Lib.hid hr; have hB2 := Lib.hid hb; clear hb hr)
            | (go_at_call 83; refine (delete_b HN.out hkc2.out hlc.out hm2.out _ hR2.out).mono ?_; rintro e w3 ⟨A1, c1, rfl, hr, hb⟩; have hR3 := Lib.hid hr; have hB3 := Lib.hid hb; clear hb hr))
          have hBf := below_step hB1.out (hB2.out.trans hB3.out)
          refine bodyPost_ret (results_tmp2 rfl _ _ _) rfl ?_
          refine ⟨_, by rw [HS.out]; rfl, ?_, hBf⟩
          rw [HS.out]
          exact .inr (Kd.R_lower hR3.out hB1.out.size)
      · by_cases hbig : m > 16
        · have hvt : (v == 2) = false := beq_eq_false_iff_ne.2 hv
          have HE : Hid (setB l c v = l.set k (c, v)) := Lib.hid (by unfold setB; rw [if_neg hv, ← hk, hh]; rfl)
          have HS : Hid (setR l c v = (l, 6)) := Lib.hid (by unfold setR; rw [hl, if_pos rfl, if_pos (by omega)])
          have b1 : decide ((m : Int) > 16) = true := decide_eq_true (by omega)
          have b2 : decide (16 < (m : Int)) = true := b1
          have hkn2 : k < n := by have := of_decide_eq_true hh; rw [hn]; exact this.1
          have hki : (k : Int) < (n : Int) := by omega
          have hmn : m = n := by rw [hm, HE.out, List.length_set, hn]
          rw [hmn] at b1 b2
          have hm2 : Hid (m = (l.set k (c, v)).length) := Lib.hid (by rw [hm, HE.out])
          rw [← hn]
          rw [← hn] at hlen hcap
          have hat := Lib.hid (at_b (A := A) (cap := cap) hn hcap hs' hlen hk hh)
          have hw1 : IntKind.i64.wrap ((k : Int) + 1) = (k : Int) + 1 := by rw [IntKind.wrap_i64]; omega
          have hkc : Hid (k ≤ n) := Lib.hid hkn
          have hh0 : Hid (hitB l c k = true) := Lib.hid hh
          have hlc : Hid (n ≤ 1000) := Lib.hid hlen
          have hcc : Hid (n ≤ cap) := Lib.hid hcap
          have hkc2 : Hid (k < n) := Lib.hid hkn2
          clear hC hn hs hs' hl hk hm hh hml hv
          go_enter Try.func55, Try.ntmps55
          have hhc := hh0
          go_wp2_with (first
            | (go_at_call 81; refine (levfit_b HL.out _).mono ?_; rintro e w0 ⟨rfl, rfl⟩)
            | (go_at_call 62; refine (hat.out _ HC.out).mono ?_; rintro e w1 ⟨rfl, hb⟩; have hB1 := Lib.hid hb; clear hb)
            | (go_at_call 82; refine (clone_c (v := v) HN.out hcc.out hlc.out hkc2.out hhc.out _ (Kd.C_below HC.out hB1.out)).mono ?_; rintro e w2 ⟨g, c0, u0, rfl, hnc0, hcell, hfr, hr, hb⟩; have hR2 := Lib.hid hr; have hB2 := Lib.hid hb; clear hb hr))
          have hBf := below_step hB1.out hB2.out
          refine bodyPost_ret (results_tmp2 rfl _ _ _) rfl ?_
          refine ⟨_, by rw [HS.out]; rfl, ?_, hBf⟩
          rw [HS.out]
          exact .inl ⟨rfl, rfl⟩
        · have hvt : (v == 2) = false := beq_eq_false_iff_ne.2 hv
          have HE : Hid (setB l c v = l.set k (c, v)) := Lib.hid (by unfold setB; rw [if_neg hv, ← hk, hh]; rfl)
          have HS : Hid (setR l c v = (l.set k (c, v), 0)) := Lib.hid (by unfold setR; rw [hl, if_pos rfl, if_neg (by omega), HE.out])
          have b1 : decide ((m : Int) > 16) = false := decide_eq_false (by omega)
          have b2 : decide (16 < (m : Int)) = false := b1
          have hkn2 : k < n := by have := of_decide_eq_true hh; rw [hn]; exact this.1
          have hki : (k : Int) < (n : Int) := by omega
          have hmn : m = n := by rw [hm, HE.out, List.length_set, hn]
          rw [hmn] at b1 b2
          have hm2 : Hid (m = (l.set k (c, v)).length) := Lib.hid (by rw [hm, HE.out])
          rw [← hn]
          rw [← hn] at hlen hcap
          have hat := Lib.hid (at_b (A := A) (cap := cap) hn hcap hs' hlen hk hh)
          have hw1 : IntKind.i64.wrap ((k : Int) + 1) = (k : Int) + 1 := by rw [IntKind.wrap_i64]; omega
          have hkc : Hid (k ≤ n) := Lib.hid hkn
          have hh0 : Hid (hitB l c k = true) := Lib.hid hh
          have hlc : Hid (n ≤ 1000) := Lib.hid hlen
          have hcc : Hid (n ≤ cap) := Lib.hid hcap
          have hkc2 : Hid (k < n) := Lib.hid hkn2
          clear hC hn hs hs' hl hk hm hh hml hv
          go_enter Try.func55, Try.ntmps55
          have hhc := hh0
          go_wp2_with (first
            | (go_at_call 81; refine (levfit_b HL.out _).mono ?_; rintro e w0 ⟨rfl, rfl⟩)
            | (go_at_call 62; refine (hat.out _ HC.out).mono ?_; rintro e w1 ⟨rfl, hb⟩; have hB1 := Lib.hid hb; clear hb)
            | (go_at_call 82; refine (clone_c (v := v) HN.out hcc.out hlc.out hkc2.out hhc.out _ (Kd.C_below HC.out hB1.out)).mono ?_; rintro e w2 ⟨g, c0, u0, rfl, hnc0, hcell, hfr, hr, hb⟩; have hR2 := Lib.hid hr; have hB2 := Lib.hid hb; clear hb hr))
          have hBf := below_step hB1.out hB2.out
          refine bodyPost_ret (results_tmp2 rfl _ _ _) rfl ?_
          refine ⟨_, by rw [HS.out]; rfl, ?_, hBf⟩
          rw [HS.out]
          exact .inr (Kd.R_lower hR2.out hB1.out.size)
    | false =>
      by_cases hv : v = 2
      · by_cases hbig : m > 16
        · subst hv
          have hvt : ((2 : Int) == 2) = true := rfl
          have HE : Hid (setB l c 2 = l) := Lib.hid (by unfold setB; rw [if_pos rfl, ← hk, hh]; rfl)
          have HS : Hid (setR l c 2 = (l, 6)) := Lib.hid (by unfold setR; rw [hl, if_pos rfl, if_pos (by omega)])
          have b1 : decide ((m : Int) > 16) = true := decide_eq_true (by omega)
          have b2 : decide (16 < (m : Int)) = true := b1
          have hmn : m = n := by rw [hm, HE.out, hn]
          rw [hmn] at b1 b2
          have hm2 : Hid (m = (l).length) := Lib.hid (by rw [hm, HE.out])
          rw [← hn]
          rw [← hn] at hlen hcap
          have hat := Lib.hid (at_b (A := A) (cap := cap) hn hcap hs' hlen hk hh)
          have hw1 : IntKind.i64.wrap ((k : Int) + 1) = (k : Int) + 1 := by rw [IntKind.wrap_i64]; omega
          have hkc : Hid (k ≤ n) := Lib.hid hkn
          have hlc : Hid (n ≤ 1000) := Lib.hid hlen
          have hcc : Hid (n ≤ cap) := Lib.hid hcap
          clear hC hn hs hs' hl hk hm hh hml
          go_enter Try.func55, Try.ntmps55
          go_wp2_with (first
            | (go_at_call 81; refine (levfit_b HL.out _).mono ?_; rintro e w0 ⟨rfl, rfl⟩)
            | (go_at_call 62; refine (hat.out _ HC.out).mono ?_; rintro e w1 ⟨rfl, hb⟩; have hB1 := Lib.hid hb; clear hb)
            | (go_at_call 82; refine (clone_b HN.out hcc.out hlc.out _ (Kd.C_below HC.out hB1.out)).mono ?_; rintro e w2 ⟨A0, c0, rfl, hr, hb⟩; have hR2 := Lib.hid hr; have hB2 := Lib.hid hb; clear hb hr))
          have hBf := below_step hB1.out hB2.out
          refine bodyPost_ret (results_tmp2 rfl _ _ _) rfl ?_
          refine ⟨_, by rw [HS.out]; rfl, ?_, hBf⟩
          rw [HS.out]
          exact .inl ⟨rfl, rfl⟩
        · subst hv
          have hvt : ((2 : Int) == 2) = true := rfl
          have HE : Hid (setB l c 2 = l) := Lib.hid (by unfold setB; rw [if_pos rfl, ← hk, hh]; rfl)
          have HS : Hid (setR l c 2 = (l, 0)) := Lib.hid (by unfold setR; rw [hl, if_pos rfl, if_neg (by omega), HE.out])
          have b1 : decide ((m : Int) > 16) = false := decide_eq_false (by omega)
          have b2 : decide (16 < (m : Int)) = false := b1
          have hmn : m = n := by rw [hm, HE.out, hn]
          rw [hmn] at b1 b2
          have hm2 : Hid (m = (l).length) := Lib.hid (by rw [hm, HE.out])
          rw [← hn]
          rw [← hn] at hlen hcap
          have hat := Lib.hid (at_b (A := A) (cap := cap) hn hcap hs' hlen hk hh)
          have hw1 : IntKind.i64.wrap ((k : Int) + 1) = (k : Int) + 1 := by rw [IntKind.wrap_i64]; omega
          have hkc : Hid (k ≤ n) := Lib.hid hkn
          have hlc : Hid (n ≤ 1000) := Lib.hid hlen
          have hcc : Hid (n ≤ cap) := Lib.hid hcap
          clear hC hn hs hs' hl hk hm hh hml
          go_enter Try.func55, Try.ntmps55
          go_wp2_with (first
            | (go_at_call 81; refine (levfit_b HL.out _).mono ?_; rintro e w0 ⟨rfl, rfl⟩)
            | (go_at_call 62; refine (hat.out _ HC.out).mono ?_; rintro e w1 ⟨rfl, hb⟩; have hB1 := Lib.hid hb; clear hb)
            | (go_at_call 82; refine (clone_b HN.out hcc.out hlc.out _ (Kd.C_below HC.out hB1.out)).mono ?_; rintro e w2 ⟨A0, c0, rfl, hr, hb⟩; have hR2 := Lib.hid hr; have hB2 := Lib.hid hb; clear hb hr))
          have hBf := below_step hB1.out hB2.out
          refine bodyPost_ret (results_tmp2 rfl _ _ _) rfl ?_
          refine ⟨_, by rw [HS.out]; rfl, ?_, hBf⟩
          rw [HS.out]
          exact .inr (Kd.R_lower hR2.out hB1.out.size)
      · by_cases hbig : m > 16
        · have hvt : (v == 2) = false := beq_eq_false_iff_ne.2 hv
          have HE : Hid (setB l c v = l.take k ++ (c, v) :: l.drop k) := Lib.hid (by unfold setB; rw [if_neg hv, ← hk, hh]; rfl)
          have HS : Hid (setR l c v = (l, 6)) := Lib.hid (by unfold setR; rw [hl, if_pos rfl, if_pos (by omega)])
          have b1 : decide ((m : Int) > 16) = true := decide_eq_true (by omega)
          have b2 : decide (16 < (m : Int)) = true := b1
          have hm2 : Hid (m = (l.take k ++ (c, v) :: l.drop k).length) := Lib.hid (by rw [hm, HE.out])
          rw [← hn]
          rw [← hn] at hlen hcap
          have hat := Lib.hid (at_b (A := A) (cap := cap) hn hcap hs' hlen hk hh)
          have hw1 : IntKind.i64.wrap ((k : Int) + 1) = (k : Int) + 1 := by rw [IntKind.wrap_i64]; omega
          have hkc : Hid (k ≤ n) := Lib.hid hkn
          have hlc : Hid (n ≤ 1000) := Lib.hid hlen
          have hcc : Hid (n ≤ cap) := Lib.hid hcap
          clear hC hn hs hs' hl hk hm hh hml hv
          go_enter Try.func55, Try.ntmps55
          go_wp2_with (first
            | (go_at_call 81; refine (levfit_b HL.out _).mono ?_; rintro e w0 ⟨rfl, rfl⟩)
            | (go_at_call 62; refine (hat.out _ HC.out).mono ?_; rintro e w1 ⟨rfl, hb⟩; have hB1 := Lib.hid hb; clear hb)
            | (go_at_call 82; refine (clone_b HN.out hcc.out hlc.out _ (Kd.C_below HC.out hB1.out)).mono ?_; rintro e w2 ⟨A0, c0, rfl, hr, hb⟩; have hR2 := Lib.hid hr; have hB2 := Lib.hid hb; clear hb hr)
            | (go_at_call 84; refine (insert_b HN.out hkc.out hlc.out hm2.out _ (Kd.R_alloc hR2.out _) (blk_at (by simp)) ?hne ?hbs).mono ?_; (case hne => (intro he; have := (Kd.R_lt2 hR2.out) _ he; omega)); (case hbs => (have := hB2.out.size; simp; omega)); rintro e w3 ⟨A1, c1, rfl, hr, hb⟩; have hR3 := Lib.hid hr; have hB3 := Lib.hid ((below_alloc hB2.out (.cells #[.int .u64 c, .int .i64 v] 46)).trans hb); clear hb hr))
          have hBf := below_step hB1.out hB3.out
          refine bodyPost_ret (results_tmp2 rfl _ _ _) rfl ?_
          refine ⟨_, by rw [HS.out]; rfl, ?_, hBf⟩
          rw [HS.out]
          exact .inl ⟨rfl, rfl⟩
        · have hvt : (v == 2) = false := beq_eq_false_iff_ne.2 hv
          have HE : Hid (setB l c v = l.take k ++ (c, v) :: l.drop k) := Lib.hid (by unfold setB; rw [if_neg hv, ← hk, hh]; rfl)
          have HS : Hid (setR l c v = (l.take k ++ (c, v) :: l.drop k, 0)) := Lib.hid (by unfold setR; rw [hl, if_pos rfl, if_neg (by omega), HE.out])
          have b1 : decide ((m : Int) > 16) = false := decide_eq_false (by omega)
          have b2 : decide (16 < (m : Int)) = false := b1
          have hm2 : Hid (m = (l.take k ++ (c, v) :: l.drop k).length) := Lib.hid (by rw [hm, HE.out])
          rw [← hn]
          rw [← hn] at hlen hcap
          have hat := Lib.hid (at_b (A := A) (cap := cap) hn hcap hs' hlen hk hh)
          have hw1 : IntKind.i64.wrap ((k : Int) + 1) = (k : Int) + 1 := by rw [IntKind.wrap_i64]; omega
          have hkc : Hid (k ≤ n) := Lib.hid hkn
          have hlc : Hid (n ≤ 1000) := Lib.hid hlen
          have hcc : Hid (n ≤ cap) := Lib.hid hcap
          clear hC hn hs hs' hl hk hm hh hml hv
          go_enter Try.func55, Try.ntmps55
          go_wp2_with (first
            | (go_at_call 81; refine (levfit_b HL.out _).mono ?_; rintro e w0 ⟨rfl, rfl⟩)
            | (go_at_call 62; refine (hat.out _ HC.out).mono ?_; rintro e w1 ⟨rfl, hb⟩; have hB1 := Lib.hid hb; clear hb)
            | (go_at_call 82; refine (clone_b HN.out hcc.out hlc.out _ (Kd.C_below HC.out hB1.out)).mono ?_; rintro e w2 ⟨A0, c0, rfl, hr, hb⟩; have hR2 := Lib.hid hr; have hB2 := Lib.hid hb; clear hb hr)
            | (go_at_call 84; refine (insert_b HN.out hkc.out hlc.out hm2.out _ (Kd.R_alloc hR2.out _) (blk_at (by simp)) ?hne ?hbs).mono ?_; (case hne => (intro he; have := (Kd.R_lt2 hR2.out) _ he; omega)); (case hbs => (have := hB2.out.size; simp; omega)); rintro e w3 ⟨A1, c1, rfl, hr, hb⟩; have hR3 := Lib.hid hr; have hB3 := Lib.hid ((below_alloc hB2.out (.cells #[.int .u64 c, .int .i64 v] 46)).trans hb); clear hb hr))
          have hBf := below_step hB1.out hB3.out
          refine bodyPost_ret (results_tmp2 rfl _ _ _) rfl ?_
          refine ⟨_, by rw [HS.out]; rfl, ?_, hBf⟩
          rw [HS.out]
          exact .inr (Kd.R_lower hR3.out hB1.out.size)
end Go.Proofs.Ytkajfadhlgmcjaa
