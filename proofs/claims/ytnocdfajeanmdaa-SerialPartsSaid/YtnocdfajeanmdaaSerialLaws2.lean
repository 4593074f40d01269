import Derived.Test.YtnocdfajeanmdaaSerialLaws
namespace Go.Proofs.Ytnocdfajeanmdaa
open Go Go.RowKit Go.Proofs.YtnocdfajeanmdaaW.PrintWords Go.Proofs.YtnocdfajeanmdaaW.PrintLast Go.Proofs.YtnocdfajeanmdaaW.PrintMore
set_option linter.unusedVariables false
set_option linter.unusedSimpArgs false
attribute [local go_sem] ov_cell ov_frozen
theorem has_nb {key name : BitVec 64} {lo hi : Int} {b : Bool} (hb : hasB key lo hi name = b) (h0 : 0 ≤ lo) (h1 : lo ≤ hi) (h2 : hi ≤ 2305843009213693952) (w : World) :
    Calls Try.prog 28 #[.int .u64 (V key), .agg #[.int .u64 lo, .int .u64 hi], .int .u64 (V name)] w fun e w' => e = .returned (.bool b) ∧ Below w.heap.size w w' := by
  subst hb; exact has_name key name lo hi h0 h1 h2 w
theorem has_named (key n : BitVec 64) (lo hi : Int) : hasB key lo hi (nameB key n) = (decide (lo ≤ V (n &&& 0x1fffffffffffffff#64)) && decide (V (n &&& 0x1fffffffffffffff#64) < hi)) := by
  have h1 : 0 < V (nameB key n) := by have := name_nat key n; unfold V; omega
  have h2 : V (nameB key n) ≤ 2305843009213693952 := by have := name_nat key n; have := through_lt key n false; unfold V; omega
  unfold hasB
  rw [number_name, decide_eq_true h1, decide_eq_true h2]
  rfl
theorem serialParts_unfit (lo hi : Int) (key n : BitVec 64) (hf : (decide (lo ≤ hi) && decide (hi ≤ 2305843009213693952)) = false) (w : World) :
    Calls Try.prog 10 #[.agg #[.int .u64 lo, .int .u64 hi], .int .u64 (V key), .int .u64 (V n)] w fun e w' => e = .returned (.bool true) ∧ Below w.heap.size w w' := by
  have HF := Lib.hid hf
  clear hf
  go_enter Try.func10, Try.ntmps10
  go_wp2_with fail
  refine (reffit_calls _ _ _).mono ?_
  rw [HF.out]
  rintro e w1 ⟨rfl, hb1⟩
  go_wp2_with fail
  refine (serial_awake _).mono ?_
  rintro e w2 ⟨rfl, hb2⟩
  go_wp2_with fail
  go_ret
  have B : Below w.heap.size w w1 := ((Below.refl _ _).alloc (Nat.le_refl _) _).trans (hb1.mono (by simp))
  exact ⟨rfl, B.trans (hb2.mono B.size)⟩
theorem serialParts_few (lo hi : Int) (key n : BitVec 64) (h0 : 0 ≤ lo) (h1 : lo ≤ hi) (h2 : hi ≤ 2305843009213693952) (hs : hi - lo < 16) (w : World) :
    Calls Try.prog 10 #[.agg #[.int .u64 lo, .int .u64 hi], .int .u64 (V key), .int .u64 (V n)] w fun e w' => e = .returned (.bool true) ∧ Below w.heap.size w w' := by
  have hf : (decide (lo ≤ hi) && decide (hi ≤ 2305843009213693952)) = true := by simp; omega
  have HF := Lib.hid hf
  have hp : 0 ≤ hi - lo := by omega
  have hd : decide (hi - lo < 16) = true := decide_eq_true hs
  clear hf
  go_enter Try.func10, Try.ntmps10
  go_wp2_with fail
  refine (reffit_calls _ _ _).mono ?_
  rw [HF.out]
  rintro e w1 ⟨rfl, hb1⟩
  have s_ := blk_below (g := w.heap.size) (blk_at (by simp)) hb1
  have sC0 := blk_cell s_ 0
  have sF0 := blk_frozen s_ 0
  have sC1 := blk_cell s_ 1
  have sF1 := blk_frozen s_ 1
  simp only [List.getElem?_toArray, List.getElem?_cons_zero, List.getElem?_cons_succ] at sC0 sC1
  have s := Lib.hid s_
  clear s_
  have B : Below w.heap.size w w1 := ((Below.refl _ _).alloc (Nat.le_refl _) _).trans (hb1.mono (by simp))
  clear hb1
  go_wp2_with fail
  refine (split_none _ _ h0 h1 h2 hs _).mono ?_
  rintro e w2 ⟨rfl, hb2⟩
  have p_ := blk_below s.out hb2
  have pC0 := blk_cell p_ 0
  have pF0 := blk_frozen p_ 0
  have pC1 := blk_cell p_ 1
  have pF1 := blk_frozen p_ 1
  simp only [List.getElem?_toArray, List.getElem?_cons_zero, List.getElem?_cons_succ] at pC0 pC1
  have p := Lib.hid p_
  clear p_
  have B2 : Below w.heap.size w w2 := B.trans (hb2.mono B.size)
  have hz : w.heap.size < w2.heap.size := blk_lt p.out
  clear hb2 s sC0 sC1 sF0 sF1 B
  go_wp2_with fail
  refine (serial_awake _).mono ?_
  rintro e w3 ⟨rfl, hb3⟩
  go_wp2_with fail
  go_ret
  exact ⟨rfl, (below_alloc (below_alloc B2 _) _).trans (hb3.mono (by have := B2.size; simp; omega))⟩
set_option maxHeartbeats 600000 in
theorem serialParts_many (lo hi : Int) (key n : BitVec 64) (h0 : 0 ≤ lo) (h1 : lo ≤ hi) (h2 : hi ≤ 2305843009213693952) (hs : 16 ≤ hi - lo) (x y z : Bool) (p : Int) (hp : (hi - lo) / 16 = p)
    (hx : hasB key lo hi (nameB key n) = x) (hy : hasB key lo (hi - p) (nameB key n) = y) (hz : hasB key (hi - p) hi (nameB key n) = z) (hxyz : (x == (y || z)) = true) (hyz : (y && z) = false) (w : World) :
    Calls Try.prog 10 #[.agg #[.int .u64 lo, .int .u64 hi], .int .u64 (V key), .int .u64 (V n)] w fun e w' => e = .returned (.bool true) ∧ Below w.heap.size w w' := by
  have hf : (decide (lo ≤ hi) && decide (hi ≤ 2305843009213693952)) = true := by simp; omega
  have HF := Lib.hid hf
  have HP := Lib.hid hp
  have hpp : 0 ≤ hi - lo := by omega
  have hp0 : 1 ≤ p := by omega
  have hp1 : p ≤ hi := by omega
  have hp2 : 15 * p ≤ hi - p - lo := by omega
  have hp3 : 15 * p ≤ hi := by omega
  have hp4 : lo ≤ hi - p := by omega
  have hp5 : 0 ≤ hi - p := by omega
  have hp6 : hi - p ≤ 2305843009213693952 := by omega
  have HX := Lib.hid hx
  have HY := Lib.hid hy
  have HZ := Lib.hid hz
  clear hf hp hx hy hz
  go_enter Try.func10, Try.ntmps10
  go_wp2_with fail
  refine (reffit_calls _ _ _).mono ?_
  rw [HF.out]
  rintro e w1 ⟨rfl, hb1⟩
  have s_ := blk_below (g := w.heap.size) (blk_at (by simp)) hb1
  have sC0 := blk_cell s_ 0
  have sF0 := blk_frozen s_ 0
  have sC1 := blk_cell s_ 1
  have sF1 := blk_frozen s_ 1
  simp only [List.getElem?_toArray, List.getElem?_cons_zero, List.getElem?_cons_succ] at sC0 sC1
  have s := Lib.hid s_
  clear s_
  have B : Below w.heap.size w w1 := ((Below.refl _ _).alloc (Nat.le_refl _) _).trans (hb1.mono (by simp))
  clear hb1
  go_wp2_with fail
  refine (split_some _ _ h0 h1 h2 hs _).mono ?_
  rw [HP.out]
  rintro e w2 ⟨rfl, hb2⟩
  have q_ := blk_below s.out hb2
  have qC0 := blk_cell q_ 0
  have qF0 := blk_frozen q_ 0
  have qC1 := blk_cell q_ 1
  have qF1 := blk_frozen q_ 1
  simp only [List.getElem?_toArray, List.getElem?_cons_zero, List.getElem?_cons_succ] at qC0 qC1
  have q := Lib.hid q_
  clear q_
  have B2 : Below w.heap.size w w2 := B.trans (hb2.mono B.size)
  have hz : w.heap.size < w2.heap.size := blk_lt q.out
  clear hb2 s sC0 sC1 sF0 sF1 B
  go_wp2_with fail
  refine (refname_calls _ _ _).mono ?_
  rintro e w' ⟨rfl, rfl⟩
  go_wp2_with fail
  have u0 : w.heap.size < w2.heap.size + 1 + 1 := by omega
  have u1 : w2.heap.size < w2.heap.size + 1 + 1 := by omega
  refine wp_region_ov (by kernel_rfl) (by kernel_rfl) ?_
  repeat (go_big_quiet_step (first | (go_at_call 28; with_reducible exact Calls_ov (has_nb HX.out h0 h1 h2 _)) | (go_at_call 28; with_reducible exact Calls_ov (has_nb HY.out h0 hp4 hp6 _)) | (go_at_call 28; with_reducible exact Calls_ov (has_nb HZ.out hp5 (by omega) h2 _))))
  refine wpQuiet_nil ?_
  intro w' hb
  have s_ := blk_below (blk_alloc (blk_alloc q.out _) _) hb
  have sC0 := blk_cell s_ 0
  have sC1 := blk_cell s_ 1
  simp only [List.getElem?_toArray, List.getElem?_cons_zero, List.getElem?_cons_succ] at sC0 sC1
  have o_ := blk_below (g := w2.heap.size) (blk_alloc (blk_at (by simp)) _) hb
  have oC0 := blk_cell o_ 0
  have oF0 := blk_frozen o_ 0
  have oC1 := blk_cell o_ 1
  have oF1 := blk_frozen o_ 1
  simp only [List.getElem?_toArray, List.getElem?_cons_zero, List.getElem?_cons_succ] at oC0 oC1
  have o := Lib.hid o_
  clear o_
  have g_ := blk_below (g := w2.heap.size + 1) (blk_at (by simp)) hb
  have gC0 := blk_cell g_ 0
  have gF0 := blk_frozen g_ 0
  have gC1 := blk_cell g_ 1
  have gF1 := blk_frozen g_ 1
  simp only [List.getElem?_toArray, List.getElem?_cons_zero, List.getElem?_cons_succ] at gC0 gC1
  have g := Lib.hid g_
  clear g_
  have B3 : Below w.heap.size w w' := (below_alloc (below_alloc B2 _) _).trans (hb.mono (by have := B2.size; simp; omega))
  obtain rfl : x = (y || z) := by simpa using hxyz
  clear hb s_ q qC0 qC1 qF0 qF1 u0 u1 HX HY HZ hxyz oF0 oF1 gF0 gF1 HF
  have d1 : decide (hi - (hi - p) ≥ 1) = true := decide_eq_true (by omega)
  have d2 : decide (p ≥ 1) = true := decide_eq_true (by omega)
  cases y <;> cases z
  · go_wp2_with fail
    refine (serial_awake _).mono ?_
    rintro e w3 ⟨rfl, hb3⟩
    go_wp2_with fail
    go_ret
    exact ⟨rfl, B3.trans (hb3.mono B3.size)⟩
  · go_wp2_with fail
    refine (serial_awake _).mono ?_
    rintro e w3 ⟨rfl, hb3⟩
    go_wp2_with fail
    go_ret
    exact ⟨rfl, B3.trans (hb3.mono B3.size)⟩
  · go_wp2_with fail
    refine (serial_awake _).mono ?_
    rintro e w3 ⟨rfl, hb3⟩
    go_wp2_with fail
    go_ret
    exact ⟨rfl, B3.trans (hb3.mono B3.size)⟩
  · simp at hyz
theorem serialParts_walk (lo hi : Int) (key n : BitVec 64) (h0 : 0 ≤ lo) (w : World) :
    Calls Try.prog 10 #[.agg #[.int .u64 lo, .int .u64 hi], .int .u64 (V key), .int .u64 (V n)] w fun e w' => e = .returned (.bool true) ∧ Below w.heap.size w w' := by
  by_cases hf : (decide (lo ≤ hi) && decide (hi ≤ 2305843009213693952)) = true
  · have h1 : lo ≤ hi := by simp at hf; omega
    have h2 : hi ≤ 2305843009213693952 := by simp at hf; omega
    by_cases hs : hi - lo < 16
    · exact serialParts_few lo hi key n h0 h1 h2 hs w
    · refine serialParts_many lo hi key n h0 h1 h2 (by omega) _ _ _ _ rfl rfl rfl rfl ?_ ?_ w
      · rw [has_named, has_named, has_named, beq_iff_eq, Bool.eq_iff_iff]
        simp
        omega
      · rw [has_named, has_named, Bool.eq_false_iff]
        simp
        omega
  · exact serialParts_unfit lo hi key n (by simpa using hf) w
def takeN (lo hi : Int) : Int := if lo = hi then 0 else lo
def takeL (lo hi : Int) : Int := if lo = hi then lo else lo + 1
def takeE (lo hi : Int) : Int := if lo = hi then 7 else 0
theorem take_is (lo hi : Int) (h0 : 0 ≤ lo) (h1 : lo ≤ hi) (h2 : hi ≤ 2305843009213693952) (w : World) :
    Calls Try.prog 17 #[.agg #[.int .u64 lo, .int .u64 hi]] w fun e w' => e = .returned (.tuple #[.int .u64 (takeN lo hi), .agg #[.int .u64 (takeL lo hi), .int .u64 hi], .int .i64 (takeE lo hi)]) ∧ Below w.heap.size w w' := by
  unfold takeN takeL takeE
  by_cases h : lo = hi
  · subst h; simp only [if_true]; exact take_none lo h0 h2 w
  · simp only [h, if_false]; exact take_some lo hi h0 (by omega) h2 w
theorem reftake_is (lo hi : Int) (h0 : 0 ≤ lo) (h1 : lo ≤ hi) (h2 : hi ≤ 2305843009213693952) (w : World) :
    Calls Try.prog 36 #[.agg #[.int .u64 lo, .int .u64 hi]] w fun e w' => e = .returned (.tuple #[.int .u64 (takeN lo hi), .agg #[.int .u64 (takeL lo hi), .int .u64 hi], .int .i64 (takeE lo hi)]) ∧ Below w.heap.size w w' := by
  unfold takeN takeL takeE
  by_cases h : lo = hi
  · subst h; simp only [if_true]; exact reftake_none lo h0 h2 w
  · simp only [h, if_false]; exact reftake_some lo hi h0 (by omega) h2 w
def splitH (lo hi : Int) : Int := if hi - lo < 16 then hi else hi - (hi - lo) / 16
def splitG (lo hi : Int) : Int := if hi - lo < 16 then 0 else hi - (hi - lo) / 16
def splitK (lo hi : Int) : Int := if hi - lo < 16 then 0 else hi
def splitE (lo hi : Int) : Int := if hi - lo < 16 then 7 else 0
theorem split_is (lo hi : Int) (h0 : 0 ≤ lo) (h1 : lo ≤ hi) (h2 : hi ≤ 2305843009213693952) (w : World) :
    Calls Try.prog 27 #[.agg #[.int .u64 lo, .int .u64 hi]] w fun e w' => e = .returned (.tuple #[.agg #[.int .u64 lo, .int .u64 (splitH lo hi)], .agg #[.int .u64 (splitG lo hi), .int .u64 (splitK lo hi)], .int .i64 (splitE lo hi)]) ∧ Below w.heap.size w w' := by
  unfold splitH splitG splitK splitE
  by_cases h : hi - lo < 16
  · simp only [h, if_true]; exact split_none lo hi h0 h1 h2 h w
  · simp only [h, if_false]; exact split_some lo hi h0 h1 h2 (by omega) w
theorem refsplit_is (lo hi : Int) (h0 : 0 ≤ lo) (h1 : lo ≤ hi) (h2 : hi ≤ 2305843009213693952) (w : World) :
    Calls Try.prog 37 #[.agg #[.int .u64 lo, .int .u64 hi]] w fun e w' => e = .returned (.tuple #[.agg #[.int .u64 lo, .int .u64 (splitH lo hi)], .agg #[.int .u64 (splitG lo hi), .int .u64 (splitK lo hi)], .int .i64 (splitE lo hi)]) ∧ Below w.heap.size w w' := by
  unfold splitH splitG splitK splitE
  by_cases h : hi - lo < 16
  · simp only [h, if_true]; exact refsplit_none lo hi h0 h1 h2 h w
  · simp only [h, if_false]; exact refsplit_some lo hi h0 h1 h2 (by omega) w
theorem fit_b {lo hi : Int} {b : Bool} (hb : (decide (lo ≤ hi) && decide (hi ≤ 2305843009213693952)) = b) (w : World) :
    Calls Try.prog 35 #[.agg #[.int .u64 lo, .int .u64 hi]] w fun e w' => e = .returned (.bool b) ∧ Below w.heap.size w w' := by
  subst hb; exact fit_calls lo hi w
theorem reffit_b {lo hi : Int} {b : Bool} (hb : (decide (lo ≤ hi) && decide (hi ≤ 2305843009213693952)) = b) (w : World) :
    Calls Try.prog 15 #[.agg #[.int .u64 lo, .int .u64 hi]] w fun e w' => e = .returned (.bool b) ∧ Below w.heap.size w w' := by
  subst hb; exact reffit_calls lo hi w
set_option maxRecDepth 100000 in
set_option maxHeartbeats 2000000 in
theorem serialDoes_walk (a b c d : Int) (key name : BitVec 64) (a0 : 0 ≤ a) (c0 : 0 ≤ c) (w : World) :
    Calls Try.prog 13 #[.agg #[.int .u64 a, .int .u64 b], .agg #[.int .u64 c, .int .u64 d], .int .u64 (V key), .int .u64 (V name)] w fun e w' => e = .returned (.bool true) ∧ Below w.heap.size w w' := by
  obtain ⟨x, hx⟩ : ∃ x, (decide (a ≤ b) && decide (b ≤ 2305843009213693952)) = x := ⟨_, rfl⟩
  obtain ⟨y, hy⟩ : ∃ x, (decide (c ≤ d) && decide (d ≤ 2305843009213693952)) = x := ⟨_, rfl⟩
  have HX := Lib.hid hx
  have HY := Lib.hid hy
  have h1 : x = true → a ≤ b := fun e => by subst e; simp at hx; omega
  have h2 : x = true → b ≤ 2305843009213693952 := fun e => by subst e; simp at hx; omega
  have h3 : y = true → c ≤ d := fun e => by subst e; simp at hy; omega
  have h4 : y = true → d ≤ 2305843009213693952 := fun e => by subst e; simp at hy; omega
  have G1 := Lib.hid h1
  have G2 := Lib.hid h2
  have G3 := Lib.hid h3
  have G4 := Lib.hid h4
  clear hx hy h1 h2 h3 h4
  go_enter Try.func13, Try.ntmps13
  go_wp2_with fail
  refine wp_region_ov (by kernel_rfl) (by kernel_rfl) ?_
  repeat (go_big_quiet_step (first | (go_at_call 35; with_reducible exact Calls_ov (fit_b HX.out _)) | (go_at_call 15; with_reducible exact Calls_ov (reffit_b HX.out _))))
  refine wpQuiet_nil ?_
  intro w1 hb1
  have s_ := blk_below (g := w.heap.size) (blk_alloc (blk_at (by simp)) _) hb1
  have sC0 := blk_cell s_ 0
  have sF0 := blk_frozen s_ 0
  have sC1 := blk_cell s_ 1
  have sF1 := blk_frozen s_ 1
  simp only [List.getElem?_toArray, List.getElem?_cons_zero, List.getElem?_cons_succ] at sC0 sC1
  have s := Lib.hid s_
  clear s_
  have t_ := blk_below (g := w.heap.size + 1) (blk_at (by simp)) hb1
  have tC0 := blk_cell t_ 0
  have tF0 := blk_frozen t_ 0
  have tC1 := blk_cell t_ 1
  have tF1 := blk_frozen t_ 1
  simp only [List.getElem?_toArray, List.getElem?_cons_zero, List.getElem?_cons_succ] at tC0 tC1
  have t := Lib.hid t_
  clear t_
  have B1 : Below w.heap.size w w1 := (below_alloc (below_alloc (Below.refl _ _) _) _).trans (hb1.mono (by simp; omega))
  have z1 : w.heap.size + 1 < w1.heap.size := blk_lt t.out
  have z1' : w.heap.size < w1.heap.size := blk_lt s.out
  clear hb1
  go_wp2_with fail
  refine (reffit_b HX.out _).mono ?_
  rintro e w2 ⟨rfl, hb2⟩
  have s2_ := blk_below s.out hb2
  have s2C0 := blk_cell s2_ 0
  have s2F0 := blk_frozen s2_ 0
  have s2C1 := blk_cell s2_ 1
  have s2F1 := blk_frozen s2_ 1
  simp only [List.getElem?_toArray, List.getElem?_cons_zero, List.getElem?_cons_succ] at s2C0 s2C1
  have s2 := Lib.hid s2_
  clear s2_
  have t2_ := blk_below t.out hb2
  have t2C0 := blk_cell t2_ 0
  have t2F0 := blk_frozen t2_ 0
  have t2C1 := blk_cell t2_ 1
  have t2F1 := blk_frozen t2_ 1
  simp only [List.getElem?_toArray, List.getElem?_cons_zero, List.getElem?_cons_succ] at t2C0 t2C1
  have t2 := Lib.hid t2_
  clear t2_
  have B2 : Below w.heap.size w w2 := B1.trans (hb2.mono B1.size)
  clear hb2 s t sC0 sC1 sF0 sF1 tC0 tC1 tF0 tF1 z1 z1' B1
  cases x with
  | false =>
    go_wp2_with fail
    refine (serial_awake _).mono ?_
    rintro e w3 ⟨rfl, hb3⟩
    go_wp2_with fail
    go_ret
    exact ⟨rfl, B2.trans (hb3.mono B2.size)⟩
  | true =>
    go_wp2_with fail
    refine (reffit_b HY.out _).mono ?_
    rintro e w3 ⟨rfl, hb3⟩
    have s3_ := blk_below s2.out hb3
    have s3C0 := blk_cell s3_ 0
    have s3F0 := blk_frozen s3_ 0
    have s3C1 := blk_cell s3_ 1
    have s3F1 := blk_frozen s3_ 1
    simp only [List.getElem?_toArray, List.getElem?_cons_zero, List.getElem?_cons_succ] at s3C0 s3C1
    have s3 := Lib.hid s3_
    clear s3_
    have t3_ := blk_below t2.out hb3
    have t3C0 := blk_cell t3_ 0
    have t3F0 := blk_frozen t3_ 0
    have t3C1 := blk_cell t3_ 1
    have t3F1 := blk_frozen t3_ 1
    simp only [List.getElem?_toArray, List.getElem?_cons_zero, List.getElem?_cons_succ] at t3C0 t3C1
    have t3 := Lib.hid t3_
    clear t3_
    have B3 : Below w.heap.size w w3 := B2.trans (hb3.mono B2.size)
    clear hb3 s2 t2 s2C0 s2C1 s2F0 s2F1 t2C0 t2C1 t2F0 t2F1 B2
    cases y with
    | false =>
      go_wp2_with fail
      refine (serial_awake _).mono ?_
      rintro e w4 ⟨rfl, hb4⟩
      go_wp2_with fail
      go_ret
      exact ⟨rfl, B3.trans (hb4.mono B3.size)⟩
    | true =>
      have g1 := G1.out (by simp)
      have g2 := G2.out (by simp)
      have g3 := G3.out (by simp)
      have g4 := G4.out (by simp)
      clear G1 G2 G3 G4
      go_wp2_with fail
      refine (take_is _ _ a0 g1 g2 _).mono ?_
      rintro e w4 ⟨rfl, hb4⟩
      have s4_ := blk_below s3.out hb4
      have s4C0 := blk_cell s4_ 0
      have s4F0 := blk_frozen s4_ 0
      have s4C1 := blk_cell s4_ 1
      have s4F1 := blk_frozen s4_ 1
      simp only [List.getElem?_toArray, List.getElem?_cons_zero, List.getElem?_cons_succ] at s4C0 s4C1
      have s4 := Lib.hid s4_
      clear s4_
      have t4_ := blk_below t3.out hb4
      have t4C0 := blk_cell t4_ 0
      have t4F0 := blk_frozen t4_ 0
      have t4C1 := blk_cell t4_ 1
      have t4F1 := blk_frozen t4_ 1
      simp only [List.getElem?_toArray, List.getElem?_cons_zero, List.getElem?_cons_succ] at t4C0 t4C1
      have t4 := Lib.hid t4_
      clear t4_
      have B4 : Below w.heap.size w w4 := B3.trans (hb4.mono B3.size)
      have z4 : w.heap.size + 1 < w4.heap.size := blk_lt t4.out
      have z4' : w.heap.size < w4.heap.size := blk_lt s4.out
      clear hb4 s3 t3 s3C0 s3C1 s3F0 s3F1 t3C0 t3C1 t3F0 t3F1 B3
      go_wp2_with fail
      refine (reftake_is _ _ a0 g1 g2 _).mono ?_
      rintro e w5 ⟨rfl, hb5⟩
      have s5_ := blk_below (blk_alloc s4.out _) hb5
      have s5C0 := blk_cell s5_ 0
      have s5F0 := blk_frozen s5_ 0
      have s5C1 := blk_cell s5_ 1
      have s5F1 := blk_frozen s5_ 1
      simp only [List.getElem?_toArray, List.getElem?_cons_zero, List.getElem?_cons_succ] at s5C0 s5C1
      have s5 := Lib.hid s5_
      clear s5_
      have t5_ := blk_below (blk_alloc t4.out _) hb5
      have t5C0 := blk_cell t5_ 0
      have t5F0 := blk_frozen t5_ 0
      have t5C1 := blk_cell t5_ 1
      have t5F1 := blk_frozen t5_ 1
      simp only [List.getElem?_toArray, List.getElem?_cons_zero, List.getElem?_cons_succ] at t5C0 t5C1
      have t5 := Lib.hid t5_
      clear t5_
      have l5_ := blk_below (g := w4.heap.size) (blk_at (by simp)) hb5
      have l5C0 := blk_cell l5_ 0
      have l5F0 := blk_frozen l5_ 0
      have l5C1 := blk_cell l5_ 1
      have l5F1 := blk_frozen l5_ 1
      simp only [List.getElem?_toArray, List.getElem?_cons_zero, List.getElem?_cons_succ] at l5C0 l5C1
      have l5 := Lib.hid l5_
      clear l5_
      have B5 : Below w.heap.size w w5 := (below_alloc B4 _).trans (hb5.mono (by have := B4.size; simp; omega))
      have z5 : w.heap.size + 1 < w5.heap.size := blk_lt t5.out
      have z5' : w.heap.size < w5.heap.size := blk_lt s5.out
      have y5 : w4.heap.size < w5.heap.size := blk_lt l5.out
      clear hb5 s4 t4 s4C0 s4C1 s4F0 s4F1 t4C0 t4C1 t4F0 t4F1 B4 z4 z4'
      go_wp2_with fail
      refine (split_is _ _ a0 g1 g2 _).mono ?_
      rintro e w6 ⟨rfl, hb6⟩
      have s6_ := blk_below (blk_alloc s5.out _) hb6
      have s6C0 := blk_cell s6_ 0
      have s6F0 := blk_frozen s6_ 0
      have s6C1 := blk_cell s6_ 1
      have s6F1 := blk_frozen s6_ 1
      simp only [List.getElem?_toArray, List.getElem?_cons_zero, List.getElem?_cons_succ] at s6C0 s6C1
      have s6 := Lib.hid s6_
      clear s6_
      have t6_ := blk_below (blk_alloc t5.out _) hb6
      have t6C0 := blk_cell t6_ 0
      have t6F0 := blk_frozen t6_ 0
      have t6C1 := blk_cell t6_ 1
      have t6F1 := blk_frozen t6_ 1
      simp only [List.getElem?_toArray, List.getElem?_cons_zero, List.getElem?_cons_succ] at t6C0 t6C1
      have t6 := Lib.hid t6_
      clear t6_
      have l6_ := blk_below (blk_alloc l5.out _) hb6
      have l6C0 := blk_cell l6_ 0
      have l6F0 := blk_frozen l6_ 0
      have l6C1 := blk_cell l6_ 1
      have l6F1 := blk_frozen l6_ 1
      simp only [List.getElem?_toArray, List.getElem?_cons_zero, List.getElem?_cons_succ] at l6C0 l6C1
      have l6 := Lib.hid l6_
      clear l6_
      have m6_ := blk_below (g := w5.heap.size) (blk_at (by simp)) hb6
      have m6C0 := blk_cell m6_ 0
      have m6F0 := blk_frozen m6_ 0
      have m6C1 := blk_cell m6_ 1
      have m6F1 := blk_frozen m6_ 1
      simp only [List.getElem?_toArray, List.getElem?_cons_zero, List.getElem?_cons_succ] at m6C0 m6C1
      have m6 := Lib.hid m6_
      clear m6_
      have B6 : Below w.heap.size w w6 := (below_alloc B5 _).trans (hb6.mono (by have := B5.size; simp; omega))
      have z6 : w.heap.size + 1 < w6.heap.size := blk_lt t6.out
      have z6' : w.heap.size < w6.heap.size := blk_lt s6.out
      have y6 : w4.heap.size < w6.heap.size := blk_lt l6.out
      have x6 : w5.heap.size < w6.heap.size := blk_lt m6.out
      clear hb6 s5 t5 l5 s5C0 s5C1 s5F0 s5F1 t5C0 t5C1 t5F0 t5F1 l5C0 l5C1 l5F0 l5F1 B5 z5 z5' y5
      go_wp2_with fail
      refine (refsplit_is _ _ a0 g1 g2 _).mono ?_
      rintro e w7 ⟨rfl, hb7⟩
      have s7_ := blk_below (blk_alloc (blk_alloc s6.out _) _) hb7
      have s7C0 := blk_cell s7_ 0
      have s7F0 := blk_frozen s7_ 0
      have s7C1 := blk_cell s7_ 1
      have s7F1 := blk_frozen s7_ 1
      simp only [List.getElem?_toArray, List.getElem?_cons_zero, List.getElem?_cons_succ] at s7C0 s7C1
      have s7 := Lib.hid s7_
      clear s7_
      have t7_ := blk_below (blk_alloc (blk_alloc t6.out _) _) hb7
      have t7C0 := blk_cell t7_ 0
      have t7F0 := blk_frozen t7_ 0
      have t7C1 := blk_cell t7_ 1
      have t7F1 := blk_frozen t7_ 1
      simp only [List.getElem?_toArray, List.getElem?_cons_zero, List.getElem?_cons_succ] at t7C0 t7C1
      have t7 := Lib.hid t7_
      clear t7_
      have l7_ := blk_below (blk_alloc (blk_alloc l6.out _) _) hb7
      have l7C0 := blk_cell l7_ 0
      have l7F0 := blk_frozen l7_ 0
      have l7C1 := blk_cell l7_ 1
      have l7F1 := blk_frozen l7_ 1
      simp only [List.getElem?_toArray, List.getElem?_cons_zero, List.getElem?_cons_succ] at l7C0 l7C1
      have l7 := Lib.hid l7_
      clear l7_
      have m7_ := blk_below (blk_alloc (blk_alloc m6.out _) _) hb7
      have m7C0 := blk_cell m7_ 0
      have m7F0 := blk_frozen m7_ 0
      have m7C1 := blk_cell m7_ 1
      have m7F1 := blk_frozen m7_ 1
      simp only [List.getElem?_toArray, List.getElem?_cons_zero, List.getElem?_cons_succ] at m7C0 m7C1
      have m7 := Lib.hid m7_
      clear m7_
      have o7_ := blk_below (g := w6.heap.size) (blk_alloc (blk_at (by simp)) _) hb7
      have o7C0 := blk_cell o7_ 0
      have o7F0 := blk_frozen o7_ 0
      have o7C1 := blk_cell o7_ 1
      have o7F1 := blk_frozen o7_ 1
      simp only [List.getElem?_toArray, List.getElem?_cons_zero, List.getElem?_cons_succ] at o7C0 o7C1
      have o7 := Lib.hid o7_
      clear o7_
      have p7_ := blk_below (g := w6.heap.size + 1) (blk_at (by simp)) hb7
      have p7C0 := blk_cell p7_ 0
      have p7F0 := blk_frozen p7_ 0
      have p7C1 := blk_cell p7_ 1
      have p7F1 := blk_frozen p7_ 1
      simp only [List.getElem?_toArray, List.getElem?_cons_zero, List.getElem?_cons_succ] at p7C0 p7C1
      have p7 := Lib.hid p7_
      clear p7_
      have B7 : Below w.heap.size w w7 := (below_alloc (below_alloc B6 _) _).trans (hb7.mono (by have := B6.size; simp; omega))
      have z7 : w.heap.size + 1 < w7.heap.size := blk_lt t7.out
      have z7' : w.heap.size < w7.heap.size := blk_lt s7.out
      have y7 : w4.heap.size < w7.heap.size := blk_lt l7.out
      have x7 : w5.heap.size < w7.heap.size := blk_lt m7.out
      have v7 : w6.heap.size < w7.heap.size := blk_lt o7.out
      have v7' : w6.heap.size + 1 < w7.heap.size := blk_lt p7.out
      clear hb7 s6 t6 l6 m6 s6C0 s6C1 s6F0 s6F1 t6C0 t6C1 t6F0 t6F1 l6C0 l6C1 l6F0 l6F1 m6C0 m6C1 m6F0 m6F1 B6 z6 z6' y6 x6
      clear s7F0 s7F1 t7F0 t7F1 l7F0 l7F1 m7F0 m7F1 o7F0 o7F1 p7F0 p7F1
      go_wp2_with fail
      obtain ⟨W, hW⟩ : ∃ W, (w7.alloc (Obj.cells #[Value.int IntKind.u64 a, Value.int IntKind.u64 (splitH a b)] 24)).alloc (Obj.cells #[Value.int IntKind.u64 (splitG a b), Value.int IntKind.u64 (splitK a b)] 24) = W := ⟨_, rfl⟩
      have q7 : W.heap[w7.heap.size]? = some (.cells #[Value.int IntKind.u64 a, Value.int IntKind.u64 (splitH a b)] 24) := by rw [← hW]; exact blk_alloc (blk_at rfl) _
      have r7 : W.heap[w7.heap.size + 1]? = some (.cells #[Value.int IntKind.u64 (splitG a b), Value.int IntKind.u64 (splitK a b)] 24) := by rw [← hW]; exact blk_at (by simp)
      have B8 : Below w.heap.size w W := by rw [← hW]; exact below_alloc (below_alloc B7 _) _
      have s8 := blk_alloc (blk_alloc s7.out (Obj.cells #[Value.int IntKind.u64 a, Value.int IntKind.u64 (splitH a b)] 24)) (Obj.cells #[Value.int IntKind.u64 (splitG a b), Value.int IntKind.u64 (splitK a b)] 24)
      have t8 := blk_alloc (blk_alloc t7.out (Obj.cells #[Value.int IntKind.u64 a, Value.int IntKind.u64 (splitH a b)] 24)) (Obj.cells #[Value.int IntKind.u64 (splitG a b), Value.int IntKind.u64 (splitK a b)] 24)
      have l8 := blk_alloc (blk_alloc l7.out (Obj.cells #[Value.int IntKind.u64 a, Value.int IntKind.u64 (splitH a b)] 24)) (Obj.cells #[Value.int IntKind.u64 (splitG a b), Value.int IntKind.u64 (splitK a b)] 24)
      have m8 := blk_alloc (blk_alloc m7.out (Obj.cells #[Value.int IntKind.u64 a, Value.int IntKind.u64 (splitH a b)] 24)) (Obj.cells #[Value.int IntKind.u64 (splitG a b), Value.int IntKind.u64 (splitK a b)] 24)
      have o8 := blk_alloc (blk_alloc o7.out (Obj.cells #[Value.int IntKind.u64 a, Value.int IntKind.u64 (splitH a b)] 24)) (Obj.cells #[Value.int IntKind.u64 (splitG a b), Value.int IntKind.u64 (splitK a b)] 24)
      have p8 := blk_alloc (blk_alloc p7.out (Obj.cells #[Value.int IntKind.u64 a, Value.int IntKind.u64 (splitH a b)] 24)) (Obj.cells #[Value.int IntKind.u64 (splitG a b), Value.int IntKind.u64 (splitK a b)] 24)
      rw [hW] at s8 t8 l8 m8 o8 p8
      rw [hW]
      have k1 := blk_lt s8
      have k2 := blk_lt t8
      have k3 := blk_lt l8
      have k4 := blk_lt m8
      have k5 := blk_lt o8
      have k6 := blk_lt p8
      have k7 := blk_lt q7
      have k8 := blk_lt r7
      clear hW s7 t7 l7 m7 o7 p7 s7C0 s7C1 t7C0 t7C1 l7C0 l7C1 m7C0 m7C1 o7C0 o7C1 p7C0 p7C1 B7 z7 z7' y7 x7 v7 v7'
      have s9_ := s8
      have s9C0 := blk_cell s9_ 0
      have s9F0 := blk_frozen s9_ 0
      have s9C1 := blk_cell s9_ 1
      have s9F1 := blk_frozen s9_ 1
      simp only [List.getElem?_toArray, List.getElem?_cons_zero, List.getElem?_cons_succ] at s9C0 s9C1
      have s9 := Lib.hid s9_
      clear s9_
      have t9_ := t8
      have t9C0 := blk_cell t9_ 0
      have t9F0 := blk_frozen t9_ 0
      have t9C1 := blk_cell t9_ 1
      have t9F1 := blk_frozen t9_ 1
      simp only [List.getElem?_toArray, List.getElem?_cons_zero, List.getElem?_cons_succ] at t9C0 t9C1
      have t9 := Lib.hid t9_
      clear t9_
      have l9_ := l8
      have l9C0 := blk_cell l9_ 0
      have l9F0 := blk_frozen l9_ 0
      have l9C1 := blk_cell l9_ 1
      have l9F1 := blk_frozen l9_ 1
      simp only [List.getElem?_toArray, List.getElem?_cons_zero, List.getElem?_cons_succ] at l9C0 l9C1
      have l9 := Lib.hid l9_
      clear l9_
      have m9_ := m8
      have m9C0 := blk_cell m9_ 0
      have m9F0 := blk_frozen m9_ 0
      have m9C1 := blk_cell m9_ 1
      have m9F1 := blk_frozen m9_ 1
      simp only [List.getElem?_toArray, List.getElem?_cons_zero, List.getElem?_cons_succ] at m9C0 m9C1
      have m9 := Lib.hid m9_
      clear m9_
      have o9_ := o8
      have o9C0 := blk_cell o9_ 0
      have o9F0 := blk_frozen o9_ 0
      have o9C1 := blk_cell o9_ 1
      have o9F1 := blk_frozen o9_ 1
      simp only [List.getElem?_toArray, List.getElem?_cons_zero, List.getElem?_cons_succ] at o9C0 o9C1
      have o9 := Lib.hid o9_
      clear o9_
      have p9_ := p8
      have p9C0 := blk_cell p9_ 0
      have p9F0 := blk_frozen p9_ 0
      have p9C1 := blk_cell p9_ 1
      have p9F1 := blk_frozen p9_ 1
      simp only [List.getElem?_toArray, List.getElem?_cons_zero, List.getElem?_cons_succ] at p9C0 p9C1
      have p9 := Lib.hid p9_
      clear p9_
      have q9_ := q7
      have q9C0 := blk_cell q9_ 0
      have q9F0 := blk_frozen q9_ 0
      have q9C1 := blk_cell q9_ 1
      have q9F1 := blk_frozen q9_ 1
      simp only [List.getElem?_toArray, List.getElem?_cons_zero, List.getElem?_cons_succ] at q9C0 q9C1
      have q9 := Lib.hid q9_
      clear q9_
      have r9_ := r7
      have r9C0 := blk_cell r9_ 0
      have r9F0 := blk_frozen r9_ 0
      have r9C1 := blk_cell r9_ 1
      have r9F1 := blk_frozen r9_ 1
      simp only [List.getElem?_toArray, List.getElem?_cons_zero, List.getElem?_cons_succ] at r9C0 r9C1
      have r9 := Lib.hid r9_
      clear r9_
      clear s8 t8 l8 m8 o8 p8 q7 r7
      obtain ⟨h, hh⟩ : ∃ h, hasB key a b name = h := ⟨_, rfl⟩
      obtain ⟨g, hg⟩ : ∃ h, apartB a b c d = h := ⟨_, rfl⟩
      have HH := Lib.hid hh
      have HG := Lib.hid hg
      clear hh hg
      have hn1 := has_nb (key := key) (name := name) HH.out a0 g1 g2
      have hn2 : ∀ w, Calls Try.prog 38 #[.int .u64 (V key), .agg #[.int .u64 a, .int .u64 b], .int .u64 (V name)] w fun e w' => e = .returned (.bool h) ∧ Below w.heap.size w w' := fun w => HH.out ▸ refhas_calls key name a b w
      have ap1 : ∀ w, Calls Try.prog 39 #[.agg #[.int .u64 a, .int .u64 b], .agg #[.int .u64 c, .int .u64 d]] w fun e w' => e = .returned (.bool g) ∧ Below w.heap.size w w' := fun w => HG.out ▸ apart_calls a b c d a0 g1 g2 c0 g3 g4 w
      have ap2 : ∀ w, Calls Try.prog 40 #[.agg #[.int .u64 a, .int .u64 b], .agg #[.int .u64 c, .int .u64 d]] w fun e w' => e = .returned (.bool g) ∧ Below w.heap.size w w' := fun w => HG.out ▸ refapart_calls a b c d w
      have N1 := Lib.hid hn1
      have N2 := Lib.hid hn2
      have P1 := Lib.hid ap1
      have P2 := Lib.hid ap2
      clear hn1 hn2 ap1 ap2 HH HG HX HY
      cases h <;> cases g
      all_goals
        refine wp_region_ov (by kernel_rfl) (by kernel_rfl) ?_
        repeat (go_big_quiet_step (first | (go_at_call 28; with_reducible exact Calls_ov (N1.out _)) | (go_at_call 38; with_reducible exact Calls_ov (N2.out _)) | (go_at_call 39; with_reducible exact Calls_ov (P1.out _)) | (go_at_call 40; with_reducible exact Calls_ov (P2.out _)) | (go_at_call 16; with_reducible exact Calls_ov (serial_awake _))))
        refine wpQuiet_nil ?_
        intro w9 hb9
        go_wp2_with fail
        go_ret
        exact ⟨rfl, B8.trans (hb9.mono B8.size)⟩
end Go.Proofs.Ytnocdfajeanmdaa
