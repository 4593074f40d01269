import Derived.Test.YtnocdfajeanmdaaPerm
namespace Go.Proofs.Ytnocdfajeanmdaa
open Go Go.RowKit Go.Proofs.YtnocdfajeanmdaaW.PrintWords Go.Proofs.YtnocdfajeanmdaaW.PrintLast Go.Proofs.YtnocdfajeanmdaaW.PrintMore
set_option linter.unusedVariables false

theorem refmix_calls (x : BitVec 64) (w : World) :
    Calls Try.prog 23 #[.int .u64 (V x)] w fun e w' => e = .returned (.int .u64 (V (mixB x))) ∧ w' = w := by
  go_enter Try.func23, Try.ntmps23
  go_wp2
  go_ret
  exact ⟨ret_int (mix_eq x), rfl⟩
theorem refround_calls (key v : BitVec 64) (r : Nat) (h8 : r < 8) (w : World) :
    Calls Try.prog 45 #[.int .u64 (V key), .int .u64 r, .int .u64 (V v)] w fun e w' => e = .returned (.int .u64 (V (stirB key v r))) ∧ w' = w := by
  have hs := stir_eq key v r h8
  have h31 : V (mixB (key + v * 0x9e3779b97f4a7c15#64 + BitVec.ofNat 64 r * 0xd1b54a32d192ed03#64)) / (1048576 : Int) = V (stirB key v r) := V_div _ 20
  have HS := Lib.hid hs
  have H3 := Lib.hid h31
  clear hs h31
  go_enter Try.func45, Try.ntmps45
  go_wp2_with (go_at_call 23; rw [HS.out]; refine (refmix_calls _ _).mono ?_; rintro e w' ⟨rfl, rfl⟩)
  go_ret
  exact ⟨ret_int H3.out, rfl⟩
theorem disj_add (a b : BitVec 64) (hb : b.toNat < 2 ^ 30) : a <<< 30 + b = a <<< 30 ||| b := by
  refine BitVec.add_eq_or_of_and_eq_zero _ _ ?_
  apply BitVec.eq_of_getLsbD_eq
  intro i hi
  rw [BitVec.getLsbD_and, BitVec.getLsbD_shiftLeft]
  by_cases h : i < 30
  · simp [h]
  · have : b.getLsbD i = false := Nat.testBit_lt_two_pow (Nat.lt_of_lt_of_le hb (Nat.pow_le_pow_right (by decide) (by omega)))
    simp [this]
/-! The halves stay within their bits. -/
def fitB (h : BitVec 64 × BitVec 64) : Prop := h.1.toNat < 2 ^ 31 ∧ h.2.toNat < 2 ^ 30
theorem and_lt (x m : BitVec 64) (n : Nat) (h : m.toNat < 2 ^ n) : (x &&& m).toNat < 2 ^ n := by
  rw [BitVec.toNat_and]; exact Nat.and_lt_two_pow _ h
theorem xor_lt {x y : BitVec 64} {n : Nat} (hx : x.toNat < 2 ^ n) (hy : y.toNat < 2 ^ n) : (x ^^^ y).toNat < 2 ^ n := by
  rw [BitVec.toNat_xor]; exact Nat.xor_lt_two_pow hx hy
theorem split_fit (n : BitVec 64) : fitB (splitB n) := by
  refine ⟨?_, and_lt _ _ 30 (by decide)⟩
  have := and_lt n 0x1fffffffffffffff#64 61 (by decide)
  show ((n &&& 0x1fffffffffffffff#64) >>> 30).toNat < 2 ^ 31
  rw [BitVec.toNat_ushiftRight, Nat.shiftRight_eq_div_pow]
  exact Nat.div_lt_of_lt_mul (by rw [← Nat.pow_add]; exact this)
theorem turn_fit {key : BitVec 64} {h : BitVec 64 × BitVec 64} (r : Nat) (hf : fitB h) : fitB (turnB key h r) := by
  unfold turnB
  split
  · exact ⟨xor_lt hf.1 (and_lt _ _ 31 (by decide)), hf.2⟩
  · exact ⟨hf.1, xor_lt hf.2 (and_lt _ _ 30 (by decide))⟩
theorem fold_fit {key : BitVec 64} (l : List Int) : ∀ {h : BitVec 64 × BitVec 64}, fitB h → fitB (l.foldl (fun h r => turnB key h r.toNat) h) := by
  induction l with
  | nil => exact fun hf => hf
  | cons x l ih => exact fun hf => ih (turn_fit _ hf)
theorem stage_fit {key : BitVec 64} {back : Bool} {h : BitVec 64 × BitVec 64} (k : Nat) (hf : fitB h) : fitB (stageB key back h k) := fold_fit _ hf
theorem turn_turn (key : BitVec 64) (h : BitVec 64 × BitVec 64) (r : Nat) : turnB key (turnB key h r) r = h := by
  unfold turnB
  by_cases hr : r % 2 = 0
  · simp only [hr, if_true, BitVec.xor_assoc, BitVec.xor_self, BitVec.xor_zero]
  · simp only [hr, if_false, BitVec.xor_assoc, BitVec.xor_self, BitVec.xor_zero]
theorem stage_back (key : BitVec 64) (h : BitVec 64 × BitVec 64) : stageB key true (stageB key false h 8) 8 = h := by
  simp only [stageB, ords, if_true, Bool.false_eq_true, if_false, List.take_succ_cons, List.take_zero, List.foldl_cons, List.foldl_nil, turn_turn]
theorem stage_forth (key : BitVec 64) (h : BitVec 64 × BitVec 64) : stageB key false (stageB key true h 8) 8 = h := by
  simp only [stageB, ords, if_true, Bool.false_eq_true, if_false, List.take_succ_cons, List.take_zero, List.foldl_cons, List.foldl_nil, turn_turn]
theorem whole_nat {h : BitVec 64 × BitVec 64} (hf : fitB h) : (wholeB h).toNat = h.1.toNat * 2 ^ 30 + h.2.toNat := by
  obtain ⟨h1, h2⟩ := hf
  unfold wholeB
  rw [← disj_add _ _ h2, BitVec.toNat_add, BitVec.toNat_shiftLeft, Nat.shiftLeft_eq]
  omega
theorem allB_nat (n : BitVec 64) : (n &&& 0x1fffffffffffffff#64).toNat = n.toNat % 2 ^ 61 := by
  rw [BitVec.toNat_and]; exact Nat.and_two_pow_sub_one_eq_mod n.toNat 61
theorem split_nat (n : BitVec 64) : (splitB n).1.toNat = n.toNat % 2 ^ 61 / 2 ^ 30 ∧ (splitB n).2.toNat = n.toNat % 2 ^ 30 := by
  constructor
  · show ((n &&& 0x1fffffffffffffff#64) >>> 30).toNat = _
    rw [BitVec.toNat_ushiftRight, Nat.shiftRight_eq_div_pow, allB_nat]
  · show (n &&& 0x1fffffffffffffff#64 &&& 0x3fffffff#64).toNat = _
    rw [BitVec.toNat_and, allB_nat]
    have := Nat.and_two_pow_sub_one_eq_mod (n.toNat % 2 ^ 61) 30
    rw [show (0x3fffffff#64).toNat = 2 ^ 30 - 1 from rfl, this]
    omega
theorem split_whole {h : BitVec 64 × BitVec 64} (hf : fitB h) : splitB (wholeB h) = h := by
  have h1 := split_nat (wholeB h)
  rw [whole_nat hf] at h1
  obtain ⟨hf1, hf2⟩ := hf
  refine Prod.ext (BitVec.eq_of_toNat_eq ?_) (BitVec.eq_of_toNat_eq ?_)
  · rw [h1.1]; omega
  · rw [h1.2]; omega
theorem whole_split (n : BitVec 64) : wholeB (splitB n) = n &&& 0x1fffffffffffffff#64 := by
  apply BitVec.eq_of_toNat_eq
  rw [whole_nat (split_fit n), allB_nat, (split_nat n).1, (split_nat n).2]
  omega
theorem split_all {n m : BitVec 64} (h : n &&& 0x1fffffffffffffff#64 = m &&& 0x1fffffffffffffff#64) : splitB n = splitB m := by
  unfold splitB; rw [h]
theorem through_all {key n m : BitVec 64} (back : Bool) (h : n &&& 0x1fffffffffffffff#64 = m &&& 0x1fffffffffffffff#64) : throughB key n back = throughB key m back := by
  unfold throughB; rw [split_all h]
theorem through_lt (key n : BitVec 64) (back : Bool) : (throughB key n back).toNat < 2 ^ 61 := by
  have hf := stage_fit (key := key) (back := back) 8 (split_fit n)
  unfold throughB
  rw [whole_nat hf]
  obtain ⟨h1, h2⟩ := hf
  omega
theorem through_back (key n : BitVec 64) : throughB key (throughB key n false) true = n &&& 0x1fffffffffffffff#64 := by
  show wholeB (stageB key true (splitB (wholeB (stageB key false (splitB n) 8))) 8) = _
  rw [split_whole (stage_fit 8 (split_fit n)), stage_back, whole_split]
theorem through_forth (key n : BitVec 64) : throughB key (throughB key n true) false = n &&& 0x1fffffffffffffff#64 := by
  show wholeB (stageB key false (splitB (wholeB (stageB key true (splitB n) 8))) 8) = _
  rw [split_whole (stage_fit 8 (split_fit n)), stage_forth, whole_split]
/-- The name of a number; the number of a name. -/
def nameB (key n : BitVec 64) : BitVec 64 := throughB key n false + 1#64
def numberB (key n : BitVec 64) : BitVec 64 := throughB key (n - 1#64) true
theorem name_is (key n : BitVec 64) (w : World) :
    Calls Try.prog 18 #[.int .u64 (V key), .int .u64 (V n)] w fun e w' => e = .returned (.int .u64 (V (nameB key n))) ∧ Below w.heap.size w w' := name_calls key n w
theorem number_is (key n : BitVec 64) (w : World) :
    Calls Try.prog 20 #[.int .u64 (V key), .int .u64 (V n)] w fun e w' => e = .returned (.int .u64 (V (numberB key n))) ∧ Below w.heap.size w w' := number_calls key n w
theorem sub_add (n : BitVec 64) : n + 1#64 - 1#64 = n := BitVec.add_sub_cancel n 1#64
theorem number_name (key n : BitVec 64) : numberB key (nameB key n) = n &&& 0x1fffffffffffffff#64 := by
  unfold numberB nameB; rw [sub_add, through_back]
theorem name_number (key n : BitVec 64) : nameB key (numberB key n) = ((n - 1#64) &&& 0x1fffffffffffffff#64) + 1#64 := by
  unfold numberB nameB; rw [through_forth]
theorem name_nat (key n : BitVec 64) : (nameB key n).toNat = (throughB key n false).toNat + 1 := by
  have := through_lt key n false
  unfold nameB
  rw [BitVec.toNat_add, show (1#64).toNat = 1 from rfl]; omega
theorem name_inj (key n m : BitVec 64) : nameB key n = nameB key m ↔ n &&& 0x1fffffffffffffff#64 = m &&& 0x1fffffffffffffff#64 := by
  constructor
  · intro h; rw [← number_name key n, h, number_name]
  · intro h; unfold nameB; rw [through_all false h]
/-! The reference's loops come to the same. -/
theorem refname_calls (key n : BitVec 64) (w : World) :
    Calls Try.prog 19 #[.int .u64 (V key), .int .u64 (V n)] w fun e w' => e = .returned (.int .u64 (V (nameB key n))) ∧ w' = w := by
  have h1 : bits BinOp.and IntKind.u64 (V n) 2305843009213693951 = V (n &&& 0x1fffffffffffffff#64) := V_andc n 2305843009213693951 (by decide)
  have h2 : bits BinOp.and IntKind.u64 (V (n &&& 0x1fffffffffffffff#64)) 1073741823 = V (splitB n).2 := V_andc _ 1073741823 (by decide)
  have h3 : V (n &&& 0x1fffffffffffffff#64) / (1073741824 : Int) = V (splitB n).1 := V_div _ 30
  have H1 := Lib.hid h1
  have H2 := Lib.hid h2
  have H3 := Lib.hid h3
  clear h1 h2 h3
  go_enter Try.func19, Try.ntmps19
  go_wp2
  go_loop [5, 6, 7] (fun a b i => ∃ k : Nat, k ≤ 8 ∧ i = .int .u64 k ∧ a = .int .u64 (V (stageB key false (splitB n) k).1) ∧ b = .int .u64 (V (stageB key false (splitB n) k).2)) (fun _ _ i => 8 - (intOf i).toNat)
  case atStart => exact ⟨0, by omega, rfl, by rw [H1.out, H3.out]; rfl, by rw [H1.out, H2.out]; rfl⟩
  case round =>
    obtain ⟨k, hk, rfl, rfl, rfl⟩ := hrel
    by_cases h8 : k < 8
    · have hs := stage_snoc key false (splitB n) k _ (ords_at false k h8)
      obtain ⟨⟨a, b⟩, hab⟩ : ∃ p, stageB key false (splitB n) k = p := ⟨_, rfl⟩
      rw [hab] at hs ⊢
      have HS := Lib.hid hs
      clear hab hs
      by_cases he : (k : Int) % 2 = 0
      · have hx : bits BinOp.xor IntKind.u64 (V a) (bits BinOp.and IntKind.u64 (V (stirB key b k)) 2147483647) = V (turnB key (a, b) k).1 ∧ (turnB key (a, b) k).2 = b := by
          have : bits BinOp.and IntKind.u64 (V (stirB key b k)) 2147483647 = V (stirB key b k &&& 0x7fffffff#64) := V_andc _ 2147483647 (by decide)
          rw [this, w_xor]; unfold turnB; rw [if_pos (by omega)]; exact ⟨rfl, rfl⟩
        have HX := Lib.hid hx
        clear hx
        go_wp2_with (go_at_call 45; refine (refround_calls _ _ _ h8 _).mono ?_; rintro e w' ⟨rfl, rfl⟩)
        go_round
        case rel => exact ⟨k + 1, by omega, by go_num, by rw [HS.out, HX.out.1]; rfl, by rw [HS.out]; simp only [Bool.false_eq_true, if_false, Int.toNat_natCast]; rw [HX.out.2]⟩
        case measure => simp [intOf]; omega
      · have he1 : (k : Int) % 2 = 1 := by omega
        clear he
        have hx : bits BinOp.xor IntKind.u64 (V b) (bits BinOp.and IntKind.u64 (V (stirB key a k)) 1073741823) = V (turnB key (a, b) k).2 ∧ (turnB key (a, b) k).1 = a := by
          have : bits BinOp.and IntKind.u64 (V (stirB key a k)) 1073741823 = V (stirB key a k &&& 0x3fffffff#64) := V_andc _ 1073741823 (by decide)
          rw [this, w_xor]; unfold turnB; rw [if_neg (by omega)]; exact ⟨rfl, rfl⟩
        have HX := Lib.hid hx
        clear hx
        go_wp2_with (go_at_call 45; refine (refround_calls _ _ _ h8 _).mono ?_; rintro e w' ⟨rfl, rfl⟩)
        go_round
        case rel => exact ⟨k + 1, by omega, by go_num, by rw [HS.out]; simp only [Bool.false_eq_true, if_false, Int.toNat_natCast]; rw [HX.out.2], by rw [HS.out, HX.out.1]; rfl⟩
        case measure => simp [intOf]; omega
    · obtain rfl : k = 8 := by omega
      have hf := stage_fit (key := key) (back := false) 8 (split_fit n)
      have hfin : IntKind.u64.wrap (IntKind.u64.wrap (IntKind.u64.wrap (V (stageB key false (splitB n) 8).1 * 1073741824) + V (stageB key false (splitB n) 8).2) + 1) = V (nameB key n) := by
        have : IntKind.u64.wrap (V (stageB key false (splitB n) 8).1 * 1073741824) = V ((stageB key false (splitB n) 8).1 * 1073741824#64) := V_mulc _ 1073741824 (by decide)
        rw [this, w_add, show (1 : Int) = V 1#64 from rfl, w_add, show (1073741824#64) = BitVec.twoPow 64 30 from rfl, BitVec.mul_twoPow_eq_shiftLeft, disj_add _ _ hf.2]
        rfl
      have HF := Lib.hid hfin
      clear hfin hf
      go_wp2
      go_ret
      exact ⟨ret_int HF.out, rfl⟩
theorem refround_int (key v : BitVec 64) (r : Int) (h0 : 0 ≤ r) (h8 : r < 8) (w : World) :
    Calls Try.prog 45 #[.int .u64 (V key), .int .u64 r, .int .u64 (V v)] w fun e w' => e = .returned (.int .u64 (V (stirB key v r.toNat))) ∧ w' = w := by
  obtain ⟨m, rfl⟩ := Int.eq_ofNat_of_zero_le h0
  exact refround_calls key v m (by omega) w
theorem refnumber_calls (key n : BitVec 64) (w : World) :
    Calls Try.prog 21 #[.int .u64 (V key), .int .u64 (V n)] w fun e w' => e = .returned (.int .u64 (V (numberB key n))) ∧ w' = w := by
  have h0 : IntKind.u64.wrap (V n - 1) = V (n - 1#64) := w_sub n 1#64
  have H0 := Lib.hid h0
  clear h0
  unfold numberB throughB
  obtain ⟨n', hn'⟩ : ∃ n', n - 1#64 = n' := ⟨_, rfl⟩
  have h1 : bits BinOp.and IntKind.u64 (IntKind.u64.wrap (V n - 1)) 2305843009213693951 = V (n' &&& 0x1fffffffffffffff#64) := by rw [H0.out, hn']; exact V_andc n' 2305843009213693951 (by decide)
  rw [hn']
  clear hn' H0
  have h2 : bits BinOp.and IntKind.u64 (V (n' &&& 0x1fffffffffffffff#64)) 1073741823 = V (splitB n').2 := V_andc _ 1073741823 (by decide)
  have h3 : V (n' &&& 0x1fffffffffffffff#64) / (1073741824 : Int) = V (splitB n').1 := V_div _ 30
  have H1 := Lib.hid h1
  have H2 := Lib.hid h2
  have H3 := Lib.hid h3
  clear h1 h2 h3
  go_enter Try.func21, Try.ntmps21
  go_wp2
  go_loop [5, 6, 7] (fun a b i => ∃ k : Nat, k ≤ 8 ∧ i = .int .u64 k ∧ a = .int .u64 (V (stageB key true (splitB n') k).1) ∧ b = .int .u64 (V (stageB key true (splitB n') k).2)) (fun _ _ i => 8 - (intOf i).toNat)
  case atStart => exact ⟨0, by omega, rfl, by rw [H1.out, H3.out]; rfl, by rw [H1.out, H2.out]; rfl⟩
  case round =>
    obtain ⟨k, hk, rfl, rfl, rfl⟩ := hrel
    by_cases h8 : k < 8
    · have hs := stage_snoc key true (splitB n') k _ (ords_at true k h8)
      obtain ⟨⟨a, b⟩, hab⟩ : ∃ p, stageB key true (splitB n') k = p := ⟨_, rfl⟩
      rw [hab] at hs ⊢
      replace hs : stageB key true (splitB n') (k + 1) = turnB key (a, b) (7 - k) := by rw [hs]; congr 1; simp only [if_true]; omega
      have HS := Lib.hid hs
      clear hab hs
      by_cases he : (7 - (k : Int)) % 2 = 0
      · have hx : bits BinOp.xor IntKind.u64 (V a) (bits BinOp.and IntKind.u64 (V (stirB key b (7 - k))) 2147483647) = V (turnB key (a, b) (7 - k)).1 ∧ (turnB key (a, b) (7 - k)).2 = b := by
          have : bits BinOp.and IntKind.u64 (V (stirB key b (7 - k))) 2147483647 = V (stirB key b (7 - k) &&& 0x7fffffff#64) := V_andc _ 2147483647 (by decide)
          rw [this, w_xor]; unfold turnB; rw [if_pos (by omega)]; exact ⟨rfl, rfl⟩
        have HX := Lib.hid hx
        clear hx
        go_wp2_with (go_at_call 45; refine (refround_int _ _ _ (by omega) (by omega) _).mono ?_; rintro e w' ⟨rfl, rfl⟩)
        go_round
        case rel => exact ⟨k + 1, by omega, by go_num, by rw [HS.out, HX.out.1], by rw [HS.out]; rw [HX.out.2]⟩
        case measure => simp [intOf]; omega
      · have he1 : (7 - (k : Int)) % 2 = 1 := by omega
        clear he
        have hx : bits BinOp.xor IntKind.u64 (V b) (bits BinOp.and IntKind.u64 (V (stirB key a (7 - k))) 1073741823) = V (turnB key (a, b) (7 - k)).2 ∧ (turnB key (a, b) (7 - k)).1 = a := by
          have : bits BinOp.and IntKind.u64 (V (stirB key a (7 - k))) 1073741823 = V (stirB key a (7 - k) &&& 0x3fffffff#64) := V_andc _ 1073741823 (by decide)
          rw [this, w_xor]; unfold turnB; rw [if_neg (by omega)]; exact ⟨rfl, rfl⟩
        have HX := Lib.hid hx
        clear hx
        go_wp2_with (go_at_call 45; refine (refround_int _ _ _ (by omega) (by omega) _).mono ?_; rintro e w' ⟨rfl, rfl⟩)
        go_round
        case rel => exact ⟨k + 1, by omega, by go_num, by rw [HS.out]; rw [HX.out.2], by rw [HS.out, HX.out.1]⟩
        case measure => simp [intOf]; omega
    · obtain rfl : k = 8 := by omega
      have hf := stage_fit (key := key) (back := true) 8 (split_fit n')
      have hfin : IntKind.u64.wrap (IntKind.u64.wrap (V (stageB key true (splitB n') 8).1 * 1073741824) + V (stageB key true (splitB n') 8).2) = V (wholeB (stageB key true (splitB n') 8)) := by
        have : IntKind.u64.wrap (V (stageB key true (splitB n') 8).1 * 1073741824) = V ((stageB key true (splitB n') 8).1 * 1073741824#64) := V_mulc _ 1073741824 (by decide)
        rw [this, w_add, show (1073741824#64) = BitVec.twoPow 64 30 from rfl, BitVec.mul_twoPow_eq_shiftLeft, disj_add _ _ hf.2]
        rfl
      have HF := Lib.hid hfin
      clear hfin hf
      go_wp2
      go_ret
      exact ⟨ret_int HF.out, rfl⟩
end Go.Proofs.Ytnocdfajeanmdaa
