import Derived.Test.YtnocdfajeanmdaaBase
namespace Go.Proofs.Ytnocdfajeanmdaa
open Go Go.RowKit Go.Proofs.YtnocdfajeanmdaaW.PrintWords Go.Proofs.YtnocdfajeanmdaaW.PrintLast Go.Proofs.YtnocdfajeanmdaaW.PrintMore
/-! Words as vectors of 64 bits. -/
abbrev W64 := BitVec 64
def V (x : BitVec 64) : Int := (x.toNat : Int)
theorem V_lt (x : BitVec 64) : 0 ≤ V x ∧ V x < 18446744073709551616 := by
  have := x.isLt; unfold V; omega
theorem V_of (n : Int) (h : (Lit.int .u64 n).wf = true) : ∃ x : BitVec 64, n = V x := by
  simp only [Lit.wf, IntKind.min, IntKind.max, IntKind.signed, IntKind.bits, Bool.and_eq_true] at h
  refine ⟨BitVec.ofNat 64 n.toNat, ?_⟩
  unfold V
  rw [BitVec.toNat_ofNat]
  simp at h
  omega
theorem V_inj {x y : BitVec 64} : V x = V y ↔ x = y := by
  unfold V
  constructor
  · intro h; exact BitVec.eq_of_toNat_eq (by omega)
  · rintro rfl; rfl
theorem V_lit (n : Nat) (h : n < 18446744073709551616) : V (BitVec.ofNat 64 n) = (n : Int) := by
  unfold V; rw [BitVec.toNat_ofNat]; omega
theorem w_add (x y : BitVec 64) : IntKind.u64.wrap (V x + V y) = V (x + y) := by
  rw [IntKind.wrap_u64]; unfold V; rw [BitVec.toNat_add]; omega
theorem w_sub (x y : BitVec 64) : IntKind.u64.wrap (V x - V y) = V (x - y) := by
  rw [IntKind.wrap_u64]; unfold V; rw [BitVec.toNat_sub]; have := x.isLt; have := y.isLt; omega
theorem w_neg (x : BitVec 64) : IntKind.u64.wrap (-V x) = V (-x) := by
  rw [IntKind.wrap_u64]; unfold V; rw [BitVec.toNat_neg]; have := x.isLt; omega
theorem w_mul (x y : BitVec 64) : IntKind.u64.wrap (V x * V y) = V (x * y) := by
  rw [IntKind.wrap_u64]; unfold V; rw [BitVec.toNat_mul, ← Int.natCast_mul]; generalize x.toNat * y.toNat = p; omega
theorem w_V (x : BitVec 64) : IntKind.u64.wrap (V x) = V x := by
  rw [IntKind.wrap_u64]; have := V_lt x; omega
theorem w_div (x y : BitVec 64) : Int.tdiv (V x) (V y) = V (x / y) := by
  unfold V; rw [BitVec.toNat_udiv, Int.ofNat_tdiv]
theorem w_mod (x y : BitVec 64) : Int.tmod (V x) (V y) = V (x % y) := by
  unfold V; rw [BitVec.toNat_umod]; rfl
theorem ofInt_V (x : BitVec 64) : BitVec.ofInt 64 (V x) = x := by
  unfold V; rw [BitVec.ofInt_natCast, BitVec.ofNat_toNat, BitVec.setWidth_eq]
theorem w_and (x y : BitVec 64) : Go.bits .and .u64 (V x) (V y) = V (x &&& y) := by
  simp only [Go.bits, IntKind.bits, ofInt_V]; exact w_V _
theorem w_or (x y : BitVec 64) : Go.bits .or .u64 (V x) (V y) = V (x ||| y) := by
  simp only [Go.bits, IntKind.bits, ofInt_V]; exact w_V _
theorem w_xor (x y : BitVec 64) : Go.bits .xor .u64 (V x) (V y) = V (x ^^^ y) := by
  simp only [Go.bits, IntKind.bits, ofInt_V]; exact w_V _
theorem w_shl (x y : BitVec 64) (h : y.toNat < 64) : shl .u64 (V x) (V y) = V (x <<< y.toNat) := by
  unfold shl V
  simp only [IntKind.bits, Int.toNat_natCast]
  rw [Nat.min_eq_left (by omega), IntKind.wrap_u64, BitVec.toNat_shiftLeft, Nat.shiftLeft_eq,
    show ((x.toNat : Int) * 2 ^ y.toNat) = ((x.toNat * 2 ^ y.toNat : Nat) : Int) from by simp]
  generalize x.toNat * 2 ^ y.toNat = p; omega
theorem w_shr (x y : BitVec 64) (h : y.toNat < 64) : shr .u64 (V x) (V y) = V (x >>> y.toNat) := by
  unfold shr V
  simp only [IntKind.bits, Int.toNat_natCast]
  rw [Nat.min_eq_left (by omega), BitVec.toNat_ushiftRight, Nat.shiftRight_eq_div_pow]
  simp
theorem w_toInt (x : BitVec 64) : wrap64 (V x) = x.toInt := by
  unfold wrap64 V; rw [BitVec.toInt_eq_toNat_cond]; have := x.isLt; split <;> omega
theorem and63 (x : BitVec 64) : (x &&& 63#64).toNat = x.toNat % 64 := by
  rw [BitVec.toNat_and]
  exact Nat.and_two_pow_sub_one_eq_mod x.toNat 6
theorem xor_and_add (x y : BitVec 64) : (x ^^^ y) + ((x &&& y) + (x &&& y)) = x + y := by
  have h1 : (x &&& ~~~y) &&& (x &&& y) = 0#64 := by
    ext i hi; simp only [BitVec.getElem_and, BitVec.getElem_not]; cases x[i] <;> cases y[i] <;> simp
  have h2 : (~~~x &&& y) &&& (x &&& y) = 0#64 := by
    ext i hi; simp only [BitVec.getElem_and, BitVec.getElem_not]; cases x[i] <;> cases y[i] <;> simp
  have h3 : (x &&& ~~~y) &&& (~~~x &&& y) = 0#64 := by
    ext i hi; simp only [BitVec.getElem_and, BitVec.getElem_not]; cases x[i] <;> cases y[i] <;> simp
  have e1 : x = (x &&& ~~~y) + (x &&& y) := by
    rw [BitVec.add_eq_or_of_and_eq_zero _ _ h1]
    ext i hi; simp only [BitVec.getElem_or, BitVec.getElem_and, BitVec.getElem_not]; cases x[i] <;> cases y[i] <;> rfl
  have e2 : y = (~~~x &&& y) + (x &&& y) := by
    rw [BitVec.add_eq_or_of_and_eq_zero _ _ h2]
    ext i hi; simp only [BitVec.getElem_or, BitVec.getElem_and, BitVec.getElem_not]; cases x[i] <;> cases y[i] <;> rfl
  have e3 : x ^^^ y = (x &&& ~~~y) + (~~~x &&& y) := by
    rw [BitVec.add_eq_or_of_and_eq_zero _ _ h3]
    ext i hi; simp only [BitVec.getElem_or, BitVec.getElem_xor, BitVec.getElem_and, BitVec.getElem_not]; cases x[i] <;> cases y[i] <;> rfl
  rw [e3]
  generalize hA : x &&& ~~~y = A at e1 ⊢
  generalize hB : ~~~x &&& y = B at e2 ⊢
  generalize hC : x &&& y = C at e1 e2 ⊢
  clear hA hB hC e3 h1 h2 h3
  subst e1; subst e2
  simp only [BitVec.add_assoc]
  rw [← BitVec.add_assoc B C C, ← BitVec.add_assoc C B C, BitVec.add_comm B C]
theorem and_top (x : BitVec 64) : (x &&& BitVec.intMin 64) + (x &&& BitVec.intMin 64) = 0#64 := by
  rw [← BitVec.two_mul, BitVec.mul_comm, show (2#64) = BitVec.twoPow 64 1 from rfl, BitVec.mul_twoPow_eq_shiftLeft]
  ext i hi
  rw [BitVec.getElem_shiftLeft]
  by_cases h : i < 1
  · simp [h]
  · have h2 : (BitVec.intMin 64).getLsbD (i - 1) = false := by rw [BitVec.getLsbD_intMin]; simp; omega
    rw [BitVec.getElem_and, ← BitVec.getLsbD_eq_getElem (x := BitVec.intMin 64), h2]
    simp
theorem top_add (x : BitVec 64) : x ^^^ BitVec.intMin 64 = x + BitVec.intMin 64 := by
  have h := xor_and_add x (BitVec.intMin 64)
  rw [and_top, BitVec.add_zero] at h
  exact h
theorem toInt_top (x : BitVec 64) : x.toInt = ((x ^^^ BitVec.intMin 64).toNat : Int) - 9223372036854775808 := by
  rw [top_add, BitVec.toNat_add, BitVec.toInt_eq_toNat_cond, show (BitVec.intMin 64).toNat = 9223372036854775808 from rfl]
  have := x.isLt
  split <;> omega
theorem or_ways (x y : BitVec 64) : x ^^^ y ^^^ (x &&& y) = x ||| y := by
  ext i hi; simp only [BitVec.getElem_xor, BitVec.getElem_or, BitVec.getElem_and]; cases x[i] <;> cases y[i] <;> rfl
theorem and_or_add (x y : BitVec 64) : (x &&& y) + (x ||| y) = x + y := by
  have h1 : (x &&& ~~~y) &&& (x &&& y) = 0#64 := by
    ext i hi; simp only [BitVec.getElem_and, BitVec.getElem_not]; cases x[i] <;> cases y[i] <;> simp
  have h3 : (x &&& ~~~y) &&& y = 0#64 := by
    ext i hi; simp only [BitVec.getElem_and, BitVec.getElem_not]; cases x[i] <;> cases y[i] <;> simp
  have e1 : x = (x &&& ~~~y) + (x &&& y) := by
    rw [BitVec.add_eq_or_of_and_eq_zero _ _ h1]
    ext i hi; simp only [BitVec.getElem_or, BitVec.getElem_and, BitVec.getElem_not]; cases x[i] <;> cases y[i] <;> rfl
  have e3 : x ||| y = (x &&& ~~~y) + y := by
    rw [BitVec.add_eq_or_of_and_eq_zero _ _ h3]
    ext i hi; simp only [BitVec.getElem_or, BitVec.getElem_and, BitVec.getElem_not]; cases x[i] <;> cases y[i] <;> rfl
  rw [e3, ← BitVec.add_assoc, BitVec.add_comm (x &&& y), ← e1]
theorem V_zero {c : BitVec 64} : V c = 0 ↔ c = 0#64 := by
  rw [show (0 : Int) = V 0#64 from rfl, V_inj]
theorem V_wf (x : BitVec 64) : (Lit.int .u64 (V x)).wf = true := by
  have := V_lt x
  simp only [Lit.wf, IntKind.min, IntKind.max, IntKind.signed, IntKind.bits, Bool.and_eq_true]
  simp; omega
theorem V_div (x : BitVec 64) (n : Nat) : V x / ((2 ^ n : Nat) : Int) = V (x >>> n) := by
  unfold V
  rw [BitVec.toNat_ushiftRight, Nat.shiftRight_eq_div_pow]
  simp
theorem V_mulc (x : BitVec 64) (c : Nat) (h : c < 18446744073709551616) : IntKind.u64.wrap (V x * (c : Int)) = V (x * BitVec.ofNat 64 c) := by
  rw [← V_lit c h, w_mul]
theorem V_andc (x : BitVec 64) (c : Nat) (h : c < 18446744073709551616) : Go.bits .and .u64 (V x) (c : Int) = V (x &&& BitVec.ofNat 64 c) := by
  rw [← V_lit c h, w_and]
theorem bounds_u64 {n : Int} (h : (Lit.int .u64 n).wf = true) : 0 ≤ n ∧ n < 18446744073709551616 := by
  obtain ⟨x, rfl⟩ := V_of n h; exact V_lt x
theorem bounds_u8' {n : Int} (h : (Lit.int .u8 n).wf = true) : 0 ≤ n ∧ n < 256 := by
  simp only [Lit.wf, IntKind.min, IntKind.max, IntKind.signed, IntKind.bits, Bool.and_eq_true] at h
  simp at h; omega
end Go.Proofs.Ytnocdfajeanmdaa
