/- What was added is taken off again; the quotient times the divisor and what is left, which is less, are the number; a word is made of its halves: for any two words; no condition. -/
import Derived.Test.YtnocdfajeanmdaaPAluBackx2
namespace Go.Proofs.Ytnocdfajeanmdaa.Pure
open Go.RowKit Go.Proofs.Ytnocdfajeanmdaa.PAluBack Go.Proofs.YtnocdfajeanmdaaW.PrintWords Go.Proofs.YtnocdfajeanmdaaW.PrintLast Go.Proofs.YtnocdfajeanmdaaW.PrintMore

/-! Words as vectors of 64 bits. -/
abbrev W64 := BitVec 64
def V (x : BitVec 64) : Int := (x.toNat : Int)
theorem V_lt (x : BitVec 64) : 0 ≤ V x ∧ V x < 18446744073709551616 := by
  have := x.isLt; unfold V; omega
theorem V_of (n : Int) (h : (Lit.int .u64 n).wf = true) : ∃ x : BitVec 64, n = V x := by
  simp only [Lit.wf, IntKind.min, IntKind.max, IntKind.signed, IntKind.bits, Bool.and_eq_true] at h
  refine ⟨BitVec.ofNat 64 n.toNat, ?_⟩
  unfold V
  rw [BitVec.toNat_ofNat]
  simp at h
  omega
theorem V_inj {x y : BitVec 64} : V x = V y ↔ x = y := by
  unfold V
  constructor
  · intro h; exact BitVec.eq_of_toNat_eq (by omega)
  · rintro rfl; rfl
theorem V_lit (n : Nat) (h : n < 18446744073709551616) : V (BitVec.ofNat 64 n) = (n : Int) := by
  unfold V; rw [BitVec.toNat_ofNat]; omega
theorem w_add (x y : BitVec 64) : IntKind.u64.wrap (V x + V y) = V (x + y) := by
  rw [IntKind.wrap_u64]; unfold V; rw [BitVec.toNat_add]; omega
theorem w_sub (x y : BitVec 64) : IntKind.u64.wrap (V x - V y) = V (x - y) := by
  rw [IntKind.wrap_u64]; unfold V; rw [BitVec.toNat_sub]; have := x.isLt; have := y.isLt; omega
theorem w_neg (x : BitVec 64) : IntKind.u64.wrap (-V x) = V (-x) := by
  rw [IntKind.wrap_u64]; unfold V; rw [BitVec.toNat_neg]; have := x.isLt; omega
theorem w_mul (x y : BitVec 64) : IntKind.u64.wrap (V x * V y) = V (x * y) := by
  rw [IntKind.wrap_u64]; unfold V; rw [BitVec.toNat_mul, ← Int.natCast_mul]; generalize x.toNat * y.toNat = p; omega
theorem w_V (x : BitVec 64) : IntKind.u64.wrap (V x) = V x := by
  rw [IntKind.wrap_u64]; have := V_lt x; omega
theorem w_div (x y : BitVec 64) : Int.tdiv (V x) (V y) = V (x / y) := by
  unfold V; rw [BitVec.toNat_udiv, Int.ofNat_tdiv]
theorem w_mod (x y : BitVec 64) : Int.tmod (V x) (V y) = V (x % y) := by
  unfold V; rw [BitVec.toNat_umod]; rfl
theorem ofInt_V (x : BitVec 64) : BitVec.ofInt 64 (V x) = x := by
  unfold V; rw [BitVec.ofInt_natCast, BitVec.ofNat_toNat, BitVec.setWidth_eq]
theorem w_and (x y : BitVec 64) : Go.bits .and .u64 (V x) (V y) = V (x &&& y) := by
  simp only [Go.bits, IntKind.bits, ofInt_V]; exact w_V _
theorem w_or (x y : BitVec 64) : Go.bits .or .u64 (V x) (V y) = V (x ||| y) := by
  simp only [Go.bits, IntKind.bits, ofInt_V]; exact w_V _
theorem w_xor (x y : BitVec 64) : Go.bits .xor .u64 (V x) (V y) = V (x ^^^ y) := by
  simp only [Go.bits, IntKind.bits, ofInt_V]; exact w_V _
theorem w_shl (x y : BitVec 64) (h : y.toNat < 64) : shl .u64 (V x) (V y) = V (x <<< y.toNat) := by
  unfold shl V
  simp only [IntKind.bits, Int.toNat_natCast]
  rw [Nat.min_eq_left (by omega), IntKind.wrap_u64, BitVec.toNat_shiftLeft, Nat.shiftLeft_eq,
    show ((x.toNat : Int) * 2 ^ y.toNat) = ((x.toNat * 2 ^ y.toNat : Nat) : Int) from by simp]
  generalize x.toNat * 2 ^ y.toNat = p; omega
theorem w_shr (x y : BitVec 64) (h : y.toNat < 64) : shr .u64 (V x) (V y) = V (x >>> y.toNat) := by
  unfold shr V
  simp only [IntKind.bits, Int.toNat_natCast]
  rw [Nat.min_eq_left (by omega), BitVec.toNat_ushiftRight, Nat.shiftRight_eq_div_pow]
  simp
theorem w_toInt (x : BitVec 64) : wrap64 (V x) = x.toInt := by
  unfold wrap64 V; rw [BitVec.toInt_eq_toNat_cond]; have := x.isLt; split <;> omega
theorem and63 (x : BitVec 64) : (x &&& 63#64).toNat = x.toNat % 64 := by
  rw [BitVec.toNat_and]
  exact Nat.and_two_pow_sub_one_eq_mod x.toNat 6
theorem xor_and_add (x y : BitVec 64) : (x ^^^ y) + ((x &&& y) + (x &&& y)) = x + y := by
  have h1 : (x &&& ~~~y) &&& (x &&& y) = 0#64 := by
    ext i hi; simp only [BitVec.getElem_and, BitVec.getElem_not]; cases x[i] <;> cases y[i] <;> simp
  have h2 : (~~~x &&& y) &&& (x &&& y) = 0#64 := by
    ext i hi; simp only [BitVec.getElem_and, BitVec.getElem_not]; cases x[i] <;> cases y[i] <;> simp
  have h3 : (x &&& ~~~y) &&& (~~~x &&& y) = 0#64 := by
    ext i hi; simp only [BitVec.getElem_and, BitVec.getElem_not]; cases x[i] <;> cases y[i] <;> simp
  have e1 : x = (x &&& ~~~y) + (x &&& y) := by
    rw [BitVec.add_eq_or_of_and_eq_zero _ _ h1]
    ext i hi; simp only [BitVec.getElem_or, BitVec.getElem_and, BitVec.getElem_not]; cases x[i] <;> cases y[i] <;> rfl
  have e2 : y = (~~~x &&& y) + (x &&& y) := by
    rw [BitVec.add_eq_or_of_and_eq_zero _ _ h2]
    ext i hi; simp only [BitVec.getElem_or, BitVec.getElem_and, BitVec.getElem_not]; cases x[i] <;> cases y[i] <;> rfl
  have e3 : x ^^^ y = (x &&& ~~~y) + (~~~x &&& y) := by
    rw [BitVec.add_eq_or_of_and_eq_zero _ _ h3]
    ext i hi; simp only [BitVec.getElem_or, BitVec.getElem_xor, BitVec.getElem_and, BitVec.getElem_not]; cases x[i] <;> cases y[i] <;> rfl
  rw [e3]
  generalize hA : x &&& ~~~y = A at e1 ⊢
  generalize hB : ~~~x &&& y = B at e2 ⊢
  generalize hC : x &&& y = C at e1 e2 ⊢
  clear hA hB hC e3 h1 h2 h3
  subst e1; subst e2
  simp only [BitVec.add_assoc]
  rw [← BitVec.add_assoc B C C, ← BitVec.add_assoc C B C, BitVec.add_comm B C]
theorem and_top (x : BitVec 64) : (x &&& BitVec.intMin 64) + (x &&& BitVec.intMin 64) = 0#64 := by
  rw [← BitVec.two_mul, BitVec.mul_comm, show (2#64) = BitVec.twoPow 64 1 from rfl, BitVec.mul_twoPow_eq_shiftLeft]
  ext i hi
  rw [BitVec.getElem_shiftLeft]
  by_cases h : i < 1
  · simp [h]
  · have h2 : (BitVec.intMin 64).getLsbD (i - 1) = false := by rw [BitVec.getLsbD_intMin]; simp; omega
    rw [BitVec.getElem_and, ← BitVec.getLsbD_eq_getElem (x := BitVec.intMin 64), h2]
    simp
theorem top_add (x : BitVec 64) : x ^^^ BitVec.intMin 64 = x + BitVec.intMin 64 := by
  have h := xor_and_add x (BitVec.intMin 64)
  rw [and_top, BitVec.add_zero] at h
  exact h
theorem toInt_top (x : BitVec 64) : x.toInt = ((x ^^^ BitVec.intMin 64).toNat : Int) - 9223372036854775808 := by
  rw [top_add, BitVec.toNat_add, BitVec.toInt_eq_toNat_cond, show (BitVec.intMin 64).toNat = 9223372036854775808 from rfl]
  have := x.isLt
  split <;> omega
theorem or_ways (x y : BitVec 64) : x ^^^ y ^^^ (x &&& y) = x ||| y := by
  ext i hi; simp only [BitVec.getElem_xor, BitVec.getElem_or, BitVec.getElem_and]; cases x[i] <;> cases y[i] <;> rfl
theorem and_or_add (x y : BitVec 64) : (x &&& y) + (x ||| y) = x + y := by
  have h1 : (x &&& ~~~y) &&& (x &&& y) = 0#64 := by
    ext i hi; simp only [BitVec.getElem_and, BitVec.getElem_not]; cases x[i] <;> cases y[i] <;> simp
  have h3 : (x &&& ~~~y) &&& y = 0#64 := by
    ext i hi; simp only [BitVec.getElem_and, BitVec.getElem_not]; cases x[i] <;> cases y[i] <;> simp
  have e1 : x = (x &&& ~~~y) + (x &&& y) := by
    rw [BitVec.add_eq_or_of_and_eq_zero _ _ h1]
    ext i hi; simp only [BitVec.getElem_or, BitVec.getElem_and, BitVec.getElem_not]; cases x[i] <;> cases y[i] <;> rfl
  have e3 : x ||| y = (x &&& ~~~y) + y := by
    rw [BitVec.add_eq_or_of_and_eq_zero _ _ h3]
    ext i hi; simp only [BitVec.getElem_or, BitVec.getElem_and, BitVec.getElem_not]; cases x[i] <;> cases y[i] <;> rfl
  rw [e3, ← BitVec.add_assoc, BitVec.add_comm (x &&& y), ← e1]

/-- What an operation makes of two words. -/
def doW (op : Int) (b c : BitVec 64) : BitVec 64 × Bool :=
  if op = 4 then (b + c, true) else if op = 5 then (b - c, true) else if op = 6 then (b * c, true)
  else if op = 7 then (if c = 0#64 then 18446744073709551615#64 else b / c, true)
  else if op = 8 then (if c = 0#64 then b else b % c, true)
  else if op = 9 then (b &&& c, true) else if op = 10 then (b ||| c, true) else if op = 11 then (b ^^^ c, true)
  else if op = 12 then (b <<< (c.toNat % 64), true) else if op = 13 then (b >>> (c.toNat % 64), true)
  else if op = 15 then (if b = c then 1#64 else 0#64, true)
  else if op = 16 then (if b.toNat < c.toNat then 1#64 else 0#64, true)
  else if op = 17 then (if b.toInt < c.toInt then 1#64 else 0#64, true)
  else (0#64, false)
theorem less_u (b c : BitVec 64) : alu_less_uint64.f (V b) (V c) = some (V (if b.toNat < c.toNat then 1#64 else 0#64)) := by
  unfold alu_less_uint64.f V
  by_cases h : b.toNat < c.toNat
  · rw [if_pos (by omega), if_pos h]; rfl
  · rw [if_neg (by omega), if_neg h]; rfl
theorem less_s (b c : BitVec 64) : alu_less_int64.f b.toInt c.toInt = some (V (if b.toInt < c.toInt then 1#64 else 0#64)) := by
  unfold alu_less_int64.f
  by_cases h : b.toInt < c.toInt
  · rw [if_pos h, if_pos h]; rfl
  · rw [if_neg h, if_neg h]; rfl
theorem V_zero {c : BitVec 64} : V c = 0 ↔ c = 0#64 := by
  rw [show (0 : Int) = V 0#64 from rfl, V_inj]
theorem divided_is (b c : BitVec 64) : alu_divided.f (V b) (V c) = some (V (if c = 0#64 then 18446744073709551615#64 else b / c), V (if c = 0#64 then b else b % c)) := by
  unfold alu_divided.f
  by_cases h : c = 0#64
  · rw [if_pos (V_zero.2 h), if_pos h, if_pos h]; rfl
  · rw [if_neg (fun e => h (V_zero.1 e)), if_neg h, if_neg h]
    simp only [w_div, w_V, w_mul, w_sub]
    rw [show b - b / c * c = b % c from ?_]
    apply BitVec.eq_of_toNat_eq
    rw [BitVec.toNat_sub, BitVec.toNat_mul, BitVec.toNat_udiv, BitVec.toNat_umod]
    have hm := Nat.div_add_mod b.toNat c.toNat
    rw [Nat.mul_comm] at hm
    generalize b.toNat / c.toNat * c.toNat = p at hm ⊢
    generalize b.toNat % c.toNat = r at hm ⊢
    have := b.isLt
    omega
theorem bitwise_is (op : Int) (b c : BitVec 64) : alu_bitwise.f op (V b) (V c) = some (V (if op = 9 then b &&& c else if op = 10 then b ||| c else b ^^^ c)) := by
  unfold alu_bitwise.f
  simp only [w_and, w_xor, or_ways]
  split
  · rfl
  · split <;> rfl
theorem and63V (c : BitVec 64) : Go.bits .and .u64 (V c) 63 = V (BitVec.ofNat 64 (c.toNat % 64)) := by
  rw [show (63 : Int) = V 63#64 from rfl, w_and, V_inj]
  apply BitVec.eq_of_toNat_eq
  rw [and63, BitVec.toNat_ofNat]; omega
theorem shlV (b : BitVec 64) (n : Nat) : shl .u64 (V b) (V (BitVec.ofNat 64 (n % 64))) = V (b <<< (n % 64)) := by
  have h : (BitVec.ofNat 64 (n % 64)).toNat = n % 64 := by rw [BitVec.toNat_ofNat]; omega
  rw [w_shl _ _ (by omega), h]
theorem shrV (b : BitVec 64) (n : Nat) : shr .u64 (V b) (V (BitVec.ofNat 64 (n % 64))) = V (b >>> (n % 64)) := by
  have h : (BitVec.ofNat 64 (n % 64)).toNat = n % 64 := by rw [BitVec.toNat_ofNat]; omega
  rw [w_shr _ _ (by omega), h]
theorem shifted_is (op : Int) (b c : BitVec 64) : alu_shifted.f op (V b) (V c) = some (V (if op = 12 then b <<< (c.toNat % 64) else b >>> (c.toNat % 64))) := by
  unfold alu_shifted.f
  simp only [and63V, shlV, shrV]
  rw [if_pos (V_lt _).1]
  split
  · rfl
  · rfl
theorem eq_less (b c : BitVec 64) : IntKind.u64.wrap (IntKind.u64.wrap (1 - V (if b.toNat < c.toNat then 1#64 else 0#64)) - V (if c.toNat < b.toNat then 1#64 else 0#64)) = V (if b = c then 1#64 else 0#64) := by
  rw [show (1 : Int) = V 1#64 from rfl, w_sub, w_sub, V_inj]
  by_cases h : b = c
  · subst h; simp
  · have hn : b.toNat ≠ c.toNat := fun e => h (BitVec.eq_of_toNat_eq e)
    rw [if_neg h]
    by_cases hl : b.toNat < c.toNat
    · rw [if_pos hl, if_neg (by omega)]; rfl
    · rw [if_neg hl, if_pos (by omega)]; rfl
theorem do_is (k : Nat) (op : Int) (b c : BitVec 64) : alu_Do.f (k + 3) op (V b) (V c) = some (V (doW op b c).1, (doW op b c).2) := by
  unfold alu_Do.f doW
  by_cases h5 : op = 5
  · subst h5; simp only [w_neg, w_add, if_true]; rw [if_neg (by decide), ← BitVec.sub_eq_add_neg]
  rw [if_neg h5]
  by_cases h4 : op = 4
  · subst h4; simp [w_add]
  rw [if_neg h4, if_neg h4, if_neg h5]
  by_cases h6 : op = 6
  · subst h6; simp [w_mul]
  rw [if_neg h6, if_neg h6]
  by_cases h7 : op = 7
  · subst h7; simp only [if_true, alu_Do.j0, divided_is]; rfl
  rw [if_neg h7, if_neg h7]
  by_cases h8 : op = 8
  · subst h8; simp only [if_true, alu_Do.j0, divided_is]; rfl
  rw [if_neg h8]
  simp only [alu_Do.j0, show (op == 8) = false from beq_eq_false_iff_ne.2 h8, Bool.false_eq_true, if_false]
  by_cases h9 : op = 9
  · subst h9; simp [alu_Do.j1, bitwise_is]
  rw [if_neg h9, if_neg h9]
  by_cases h10 : op = 10
  · subst h10; simp [alu_Do.j1, bitwise_is]
  rw [if_neg h10, if_neg h10]
  by_cases h11 : op = 11
  · subst h11; simp [alu_Do.j1, bitwise_is]
  rw [if_neg h11]
  simp only [alu_Do.j1, show (op == 11) = false from beq_eq_false_iff_ne.2 h11, Bool.false_eq_true, if_false]
  by_cases h12 : op = 12
  · subst h12; simp [alu_Do.j2, shifted_is]
  rw [if_neg h12, if_neg h12]
  by_cases h13 : op = 13
  · subst h13; simp [alu_Do.j2, shifted_is]
  rw [if_neg h13]
  simp only [alu_Do.j2, show (op == 13) = false from beq_eq_false_iff_ne.2 h13, Bool.false_eq_true, if_false]
  by_cases h15 : op = 15
  · subst h15; simp [less_u, eq_less]
  rw [if_neg h15, if_neg h15]
  by_cases h16 : op = 16
  · subst h16; simp [less_u]
  rw [if_neg h16, if_neg h16]
  by_cases h17 : op = 17
  · subst h17; simp [w_toInt, less_s]
  rw [if_neg h17, if_neg h17]
  rfl
theorem awake_is (k : Nat) : curtilagelaw09_awake.f (k + 3) = some true := by
  unfold curtilagelaw09_awake.f
  rw [show (7 : Int) = V 7#64 from rfl, show (0 : Int) = V 0#64 from rfl, show (18446744073709551615 : Int) = V 18446744073709551615#64 from rfl, show (1 : Int) = V 1#64 from rfl]
  simp only [do_is, Option.bind_some]
  decide +kernel

theorem law_do (k : Nat) (op : Int) (b c : BitVec 64) : curtilagelaw09_do.f (k + 3) op (V b) (V c) = some (V (doW op b c).1) := by
  unfold curtilagelaw09_do.f
  rw [do_is]; rfl

theorem half_or (a c : Int) (ha : 0 ≤ a) (ha' : a < 4294967296) (hc : 0 ≤ c) (hc' : c < 4294967296) : Go.bits .or .u64 a (c * 4294967296) = a + c * 4294967296 := by
  obtain ⟨m, rfl⟩ := Int.eq_ofNat_of_zero_le ha
  obtain ⟨n, rfl⟩ := Int.eq_ofNat_of_zero_le hc
  have hm : m < 4294967296 := by omega
  have hn : n < 4294967296 := by omega
  have h1 : (m : Int) = V (BitVec.ofNat 64 m) := by rw [V_lit _ (by omega)]
  have h2 : ((n : Int) * 4294967296) = V (BitVec.ofNat 64 (n * 4294967296)) := by rw [V_lit _ (by omega)]; omega
  rw [h1, h2, w_or]
  unfold V
  rw [BitVec.toNat_or, BitVec.toNat_ofNat, BitVec.toNat_ofNat, Nat.mod_eq_of_lt (by omega), Nat.mod_eq_of_lt (by omega)]
  have e := Nat.two_pow_add_eq_or_of_lt (i := 32) (b := m) (by omega) n
  rw [Nat.or_comm, show n * 4294967296 = 2 ^ 32 * n from by omega, ← e]
  omega
theorem halves (b : BitVec 64) : ∃ t, alu_Extend.f (wrap32 (V b % 4294967296)) = some t ∧ alu_Movh.f t (wrap32 (V b / 4294967296 % 4294967296)) = some (V b) := by
  have h := V_lt b
  generalize V b = n at h ⊢
  unfold alu_Extend.f
  by_cases hn : wrap32 (n % 4294967296) < 0
  · refine ⟨_, if_pos hn, ?_⟩
    rw [show (18446744069414584320 : Int) = 4294967295 * 4294967296 from by decide, half_or _ _ (by omega) (by omega) (by omega) (by omega)]
    unfold alu_Movh.f
    rw [half_or _ _ (by omega) (by omega) (by omega) (by omega)]
    congr 1
    unfold wrap32
    omega
  · refine ⟨_, if_neg hn, ?_⟩
    unfold alu_Movh.f
    rw [half_or _ _ (by omega) (by omega) (by omega) (by omega)]
    congr 1
    unfold wrap32
    omega
theorem AluBack : curtilagelaw09_AluBack.Pure := by
  intro a0 a1 h0 h1
  obtain ⟨b, rfl⟩ := V_of a0 h0
  obtain ⟨c, rfl⟩ := V_of a1 h1
  refine ⟨4, ?_⟩
  unfold curtilagelaw09_AluBack.f
  have hj : ∀ x : Bool, x = false → curtilagelaw09_AluBack.j0 4 (V b) x = some true := by
    rintro x rfl
    simp only [curtilagelaw09_AluBack.j0, Bool.false_eq_true, if_false]
    obtain ⟨t, h1, h2⟩ := halves b
    rw [h1]; simp only [Option.bind_some]; rw [h2]; simp only [Option.bind_some, if_true]
    rw [awake_is 0]; rfl
  simp only [law_do 1, Option.bind_some]
  rw [if_pos (by rw [V_inj]; simp [doW, BitVec.add_sub_cancel])]
  by_cases hc : c = 0#64
  · rw [if_pos (V_zero.2 hc)]
    subst hc
    rw [if_pos (by simp [doW]; rfl)]
    exact hj _ (by simp [doW])
  · rw [if_neg (fun e => hc (V_zero.1 e))]
    have hdm : b / c * c + b % c = b := by
      apply BitVec.eq_of_toNat_eq
      rw [BitVec.toNat_add, BitVec.toNat_mul, BitVec.toNat_udiv, BitVec.toNat_umod]
      have hm := Nat.div_add_mod b.toNat c.toNat
      rw [Nat.mul_comm] at hm
      generalize b.toNat / c.toNat * c.toNat = p at hm ⊢
      generalize b.toNat % c.toNat = r at hm ⊢
      have := b.isLt
      omega
    rw [if_pos (by rw [V_inj]; simp [doW, hc, hdm])]
    have hlt : (b % c).toNat < c.toNat := by
      rw [BitVec.toNat_umod]
      exact Nat.mod_lt _ (Nat.pos_of_ne_zero (fun e => hc (BitVec.eq_of_toNat_eq e)))
    rw [if_pos (by simp [doW, hc, -BitVec.toNat_umod, hlt]; rfl)]
    exact hj _ rfl

end Go.Proofs.Ytnocdfajeanmdaa.Pure
