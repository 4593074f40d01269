import Derived.Test.YtnocdfajeanmdaaPermRef
namespace Go.Proofs.Ytnocdfajeanmdaa
open Go Go.RowKit Go.Proofs.YtnocdfajeanmdaaW.PrintWords Go.Proofs.YtnocdfajeanmdaaW.PrintLast Go.Proofs.YtnocdfajeanmdaaW.PrintMore
set_option linter.unusedVariables false

theorem shr_fix {d : BitVec 64} {n : Nat} (hn : 0 < n) (h : d = d >>> n) : d = 0#64 := by
  apply BitVec.eq_of_toNat_eq
  have := congrArg BitVec.toNat h
  rw [BitVec.toNat_ushiftRight, Nat.shiftRight_eq_div_pow] at this
  by_cases h0 : d.toNat = 0
  · simpa using h0
  · have := Nat.div_lt_self (Nat.pos_of_ne_zero h0) (Nat.one_lt_two_pow (n := n) (by omega))
    omega
theorem xorshr_inj {x y : BitVec 64} {n : Nat} (hn : 0 < n) (h : x ^^^ x >>> n = y ^^^ y >>> n) : x = y := by
  have hd : x ^^^ y = (x ^^^ y) >>> n := by
    rw [BitVec.ushiftRight_xor_distrib]
    have h2 : (x ^^^ x >>> n) ^^^ (y ^^^ y >>> n) = 0#64 := by rw [h, BitVec.xor_self]
    have h3 : (x ^^^ y) ^^^ (x >>> n ^^^ y >>> n) = 0#64 := by
      rw [← h2]; ac_rfl
    have h4 := congrArg (· ^^^ (x >>> n ^^^ y >>> n)) h3
    simpa [BitVec.xor_assoc] using h4
  have h0 := shr_fix hn hd
  have := congrArg (· ^^^ y) h0
  simpa [BitVec.xor_assoc] using this
theorem mul_inj {x y c d : BitVec 64} (hc : c * d = 1#64) (h : x * c = y * c) : x = y := by
  have := congrArg (· * d) h
  simpa only [BitVec.mul_assoc, hc, BitVec.mul_one] using this
theorem mix_inj {x y : BitVec 64} (h : mixB x = mixB y) : x = y := by
  unfold mixB at h
  exact xorshr_inj (by decide) (mul_inj (d := 0x96de1b173f119089#64) (by decide) (xorshr_inj (by decide) (mul_inj (d := 0x319642b2d24d8ec3#64) (by decide) (xorshr_inj (by decide) h))))
def permEx : BitVec 64 := nameB 3#64 5#64
theorem perm_awake (w : World) : Calls Try.prog 24 #[] w fun e w' => e = .returned (.bool true) ∧ Below w.heap.size w w' := by
  have m0 : ∀ w, Calls Try.prog 22 #[.int .u64 0] w fun e w' => e = .returned (.int .u64 0) ∧ w' = w := fun w => mix_calls 0#64 w
  have m1 : ∀ w, Calls Try.prog 22 #[.int .u64 1] w fun e w' => e = .returned (.int .u64 (V (mixB 1#64))) ∧ w' = w := fun w => mix_calls 1#64 w
  have n1 : ∀ w, Calls Try.prog 18 #[.int .u64 3, .int .u64 5] w fun e w' => e = .returned (.int .u64 (V permEx)) ∧ Below w.heap.size w w' := fun w => name_is 3#64 5#64 w
  have n2 : ∀ w, Calls Try.prog 20 #[.int .u64 3, .int .u64 (V permEx)] w fun e w' => e = .returned (.int .u64 5) ∧ Below w.heap.size w w' := fun w => by
    have h := number_is 3#64 permEx w
    rw [show numberB 3#64 permEx = 5#64 from number_name 3#64 5#64] at h
    exact h
  have hne : (V (mixB 1#64) != 0) = true := by decide +kernel
  have M0 := Lib.hid m0
  have M1 := Lib.hid m1
  have N1 := Lib.hid n1
  have N2 := Lib.hid n2
  clear m0 m1 n1 n2
  go_enter Try.func24, Try.ntmps24
  go_wp2_with fail
  refine (M0.out _).mono ?_
  rintro e w' ⟨rfl, rfl⟩
  go_wp2_with fail
  refine (N1.out _).mono ?_
  rintro e w1 ⟨rfl, hb1⟩
  go_wp2_with fail
  refine (N2.out _).mono ?_
  rintro e w2 ⟨rfl, hb2⟩
  go_wp2_with fail
  refine (M1.out _).mono ?_
  rintro e w' ⟨rfl, rfl⟩
  go_wp2_with fail
  go_ret
  exact ⟨rfl, hb1.trans (hb2.mono hb1.size)⟩
theorem beqV (b c : BitVec 64) : (V b == V c) = decide (b = c) := by
  rw [Bool.eq_iff_iff]; simp [V_inj]
theorem permNames_walk (key n : BitVec 64) (w : World) : Calls Try.prog 4 #[.int .u64 (V key), .int .u64 (V n)] w fun e w' => e = .returned (.bool true) ∧ Below w.heap.size w w' := by
  go_enter Try.func4, Try.ntmps4
  go_wp2_with fail
  refine (name_is _ _ _).mono ?_
  rintro e w1 ⟨rfl, hb1⟩
  go_wp2_with fail
  refine (refname_calls _ _ _).mono ?_
  rintro e w' ⟨rfl, rfl⟩
  go_wp2_with fail
  refine (number_is _ _ _).mono ?_
  rintro e w2 ⟨rfl, hb2⟩
  go_wp2_with fail
  refine (refnumber_calls _ _ _).mono ?_
  rintro e w' ⟨rfl, rfl⟩
  go_wp2_with fail
  refine (mix_calls _ _).mono ?_
  rintro e w' ⟨rfl, rfl⟩
  go_wp2_with fail
  refine (refmix_calls _ _).mono ?_
  rintro e w' ⟨rfl, rfl⟩
  go_wp2_with fail
  refine (perm_awake _).mono ?_
  rintro e w3 ⟨rfl, hb3⟩
  go_wp2_with fail
  go_ret
  have hb12 := hb1.trans (hb2.mono hb1.size)
  exact ⟨rfl, hb12.trans (hb3.mono hb12.size)⟩
theorem permMixes_walk (x y : BitVec 64) (w : World) : Calls Try.prog 6 #[.int .u64 (V x), .int .u64 (V y)] w fun e w' => e = .returned (.bool true) ∧ Below w.heap.size w w' := by
  have hd : ((V (mixB x) == V (mixB y)) == (V x == V y)) = true := by
    rw [beqV, beqV, beq_iff_eq, Bool.eq_iff_iff]
    simp only [decide_eq_true_eq]
    exact ⟨mix_inj, fun h => by rw [h]⟩
  go_enter Try.func6, Try.ntmps6
  go_wp2_with fail
  refine (mix_calls _ _).mono ?_
  rintro e w' ⟨rfl, rfl⟩
  go_wp2_with fail
  refine (mix_calls _ _).mono ?_
  rintro e w' ⟨rfl, rfl⟩
  go_wp2_with fail
  refine (perm_awake _).mono ?_
  rintro e w3 ⟨rfl, hb3⟩
  go_wp2_with fail
  go_ret
  exact ⟨rfl, hb3⟩
theorem permBack_walk (key n m : BitVec 64) (w : World) : Calls Try.prog 5 #[.int .u64 (V key), .int .u64 (V n), .int .u64 (V m)] w fun e w' => e = .returned (.bool true) ∧ Below w.heap.size w w' := by
  have e1 : ∀ x : BitVec 64, Go.bits .and .u64 (V x) 2305843009213693951 = V (x &&& 0x1fffffffffffffff#64) := fun x => V_andc x 2305843009213693951 (by decide)
  have e2 : IntKind.u64.wrap (V n - 1) = V (n - 1#64) := w_sub n 1#64
  have e4 : IntKind.u64.wrap (V ((n - 1#64) &&& 0x1fffffffffffffff#64) + 1) = V (nameB key (numberB key n)) := by rw [name_number]; exact w_add _ 1#64
  have e5 : V (numberB key (nameB key n)) = V (n &&& 0x1fffffffffffffff#64) := by rw [number_name]
  have hd : ((V (nameB key n) == V (nameB key m)) == (V (n &&& 0x1fffffffffffffff#64) == V (m &&& 0x1fffffffffffffff#64))) = true := by
    rw [beqV, beqV, beq_iff_eq, Bool.eq_iff_iff]
    simp only [decide_eq_true_eq]
    exact name_inj key n m
  have h1 : 1 ≤ V (nameB key n) := by have := name_nat key n; unfold V; omega
  have h2 : V (nameB key n) ≤ 2305843009213693952 := by have := name_nat key n; have := through_lt key n false; unfold V; omega
  go_enter Try.func5, Try.ntmps5
  go_wp2_with fail
  refine (name_is _ _ _).mono ?_
  rintro e w1 ⟨rfl, hb1⟩
  go_wp2_with fail
  refine (name_is _ _ _).mono ?_
  rintro e w2 ⟨rfl, hb2⟩
  go_wp2_with fail
  refine (number_is _ _ _).mono ?_
  rintro e w3 ⟨rfl, hb3⟩
  go_wp2_with fail
  refine (number_is _ _ _).mono ?_
  rintro e w4 ⟨rfl, hb4⟩
  go_wp2_with fail
  refine (name_is _ _ _).mono ?_
  rintro e w5 ⟨rfl, hb5⟩
  go_wp2_with fail
  refine (perm_awake _).mono ?_
  rintro e w6 ⟨rfl, hb6⟩
  go_wp2_with fail
  go_ret
  have b2 := hb1.trans (hb2.mono hb1.size)
  have b3 := b2.trans (hb3.mono b2.size)
  have b4 := b3.trans (hb4.mono b3.size)
  have b5 := b4.trans (hb5.mono b4.size)
  exact ⟨rfl, b5.trans (hb6.mono b5.size)⟩
theorem high_all (n h : BitVec 64) : (n ^^^ h <<< 61) &&& 0x1fffffffffffffff#64 = n &&& 0x1fffffffffffffff#64 := by
  apply BitVec.eq_of_getLsbD_eq
  intro i hi
  have hm : (0x1fffffffffffffff#64).getLsbD i = decide (i < 61) := by
    have : ∀ j : Fin 64, (0x1fffffffffffffff#64).getLsbD j.val = decide (j.val < 61) := by decide
    exact this ⟨i, hi⟩
  rw [BitVec.getLsbD_and, BitVec.getLsbD_and, BitVec.getLsbD_xor, BitVec.getLsbD_shiftLeft, hm]
  by_cases h : i < 61 <;> simp [h]
theorem high_less (n h : BitVec 64) : ((n ^^^ h <<< 61) - 1#64) &&& 0x1fffffffffffffff#64 = (n - 1#64) &&& 0x1fffffffffffffff#64 := by
  have e := congrArg BitVec.toNat (high_all n h)
  rw [allB_nat, allB_nat] at e
  apply BitVec.eq_of_toNat_eq
  rw [allB_nat, allB_nat, BitVec.toNat_sub, BitVec.toNat_sub, show (1#64).toNat = 1 from rfl]
  omega
theorem shl61 (h : BitVec 64) : IntKind.u64.wrap (V h * 2305843009213693952) = V (h <<< 61) := by
  have : IntKind.u64.wrap (V h * 2305843009213693952) = V (h * 2305843009213693952#64) := V_mulc h 2305843009213693952 (by decide)
  rw [this, show (2305843009213693952#64) = BitVec.twoPow 64 61 from rfl, BitVec.mul_twoPow_eq_shiftLeft]
theorem permBits_walk (key other n high : BitVec 64) (w : World) : Calls Try.prog 7 #[.int .u64 (V key), .int .u64 (V other), .int .u64 (V n), .int .u64 (V high)] w fun e w' => e = .returned (.bool true) ∧ Below w.heap.size w w' := by
  have e0 : IntKind.u64.wrap (V high * 2305843009213693952) = V (high <<< 61) := shl61 high
  have e0' : Go.bits .xor .u64 (V n) (V (high <<< 61)) = V (n ^^^ high <<< 61) := w_xor _ _
  have e1 : ∀ x : BitVec 64, Go.bits .and .u64 (V x) 2305843009213693951 = V (x &&& 0x1fffffffffffffff#64) := fun x => V_andc x 2305843009213693951 (by decide)
  have e2 : nameB key (n ^^^ high <<< 61) = nameB key n := (name_inj key _ _).2 (high_all n high)
  have e3 : numberB key (n ^^^ high <<< 61) = numberB key n := through_all true (high_less n high)
  have hd : ((V (numberB other (nameB key n)) == V (n &&& 0x1fffffffffffffff#64)) == (V (nameB other n) == V (nameB key n))) = true := by
    rw [beqV, beqV, beq_iff_eq, Bool.eq_iff_iff]
    simp only [decide_eq_true_eq]
    constructor
    · intro h
      have h2 : nameB other (numberB other (nameB key n)) = nameB other (n &&& 0x1fffffffffffffff#64) := by rw [h]
      rw [name_number] at h2
      have h3 : nameB other (n &&& 0x1fffffffffffffff#64) = nameB other n := (name_inj other _ _).2 (by rw [BitVec.and_assoc, BitVec.and_self])
      rw [← h3, ← h2]
      have h4 : (nameB key n - 1#64) = throughB key n false := sub_add _
      have h5 : throughB key n false &&& 0x1fffffffffffffff#64 = throughB key n false := by
        apply BitVec.eq_of_toNat_eq
        rw [allB_nat, Nat.mod_eq_of_lt (through_lt key n false)]
      rw [h4, h5]
      rfl
    · intro h
      rw [← h, number_name]
  have h1 : (V (nameB key n) != 0) = true := by have := name_nat key n; rw [bne_iff_ne]; unfold V; omega
  go_enter Try.func7, Try.ntmps7
  go_wp2_with fail
  refine (name_is _ _ _).mono ?_
  rintro e w1 ⟨rfl, hb1⟩
  go_wp2_with fail
  refine (name_is _ _ _).mono ?_
  rintro e w2 ⟨rfl, hb2⟩
  go_wp2_with fail
  refine (number_is _ _ _).mono ?_
  rintro e w3 ⟨rfl, hb3⟩
  go_wp2_with fail
  refine (number_is _ _ _).mono ?_
  rintro e w4 ⟨rfl, hb4⟩
  go_wp2_with fail
  refine (name_is _ _ _).mono ?_
  rintro e w5 ⟨rfl, hb5⟩
  go_wp2_with fail
  refine (number_is _ _ _).mono ?_
  rintro e w6 ⟨rfl, hb6⟩
  go_wp2_with fail
  refine (name_is _ _ _).mono ?_
  rintro e w7 ⟨rfl, hb7⟩
  go_wp2_with fail
  refine (perm_awake _).mono ?_
  rintro e w8 ⟨rfl, hb8⟩
  go_wp2_with fail
  go_ret
  have b2 := hb1.trans (hb2.mono hb1.size)
  have b3 := b2.trans (hb3.mono b2.size)
  have b4 := b3.trans (hb4.mono b3.size)
  have b5 := b4.trans (hb5.mono b4.size)
  have b6 := b5.trans (hb6.mono b5.size)
  have b7 := b6.trans (hb7.mono b6.size)
  exact ⟨rfl, b7.trans (hb8.mono b7.size)⟩
end Go.Proofs.Ytnocdfajeanmdaa
