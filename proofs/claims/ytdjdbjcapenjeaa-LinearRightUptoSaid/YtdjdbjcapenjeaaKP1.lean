/- Sets of calls as numbers: the machine's operations on them. -/
import Derived.Test.YtdjdbjcapenjeaaKH
set_option linter.unusedVariables false
namespace Go.Proofs.Ytdjdbjcapenjeaa.KP1
open Go Go.Proofs.Ytdjdbjcapenjeaa.Dx Go.Proofs.Ytdjdbjcapenjeaa.Dx.TYtdjdbjcapenjeaa
open KB KE KF
theorem u32w (a : Nat) (h : a < 4294967296) : IntKind.u32.wrap (a : Int) = (a : Int) := by
  show ((a : Int) % (4294967296 : Int)) = _
  omega
theorem i64w (a : Nat) (h : a < 9223372036854775808) : IntKind.i64.wrap (a : Int) = (a : Int) := w64 (by omega) (by omega)
theorem ofInt32 (a : Nat) : BitVec.ofInt IntKind.u32.bits (a : Int) = BitVec.ofNat 32 a := BitVec.ofInt_natCast 32 a
theorem ofInt64 (a : Nat) : BitVec.ofInt IntKind.i64.bits (a : Int) = BitVec.ofNat 64 a := BitVec.ofInt_natCast 64 a
theorem and_lt {a b m : Nat} (h : a < m) : a &&& b < m := Nat.lt_of_le_of_lt Nat.and_le_left h
theorem u32and_nat (a b : Nat) (ha : a < 4294967296) (hb : b < 4294967296) : u32and (a : Int) (b : Int) = ((a &&& b : Nat) : Int) := by
  unfold u32and
  rw [ofInt32, ofInt32]
  show IntKind.u32.wrap (((BitVec.ofNat 32 a &&& BitVec.ofNat 32 b).toNat : Nat) : Int) = _
  rw [BitVec.toNat_and, BitVec.toNat_ofNat, BitVec.toNat_ofNat, Nat.mod_eq_of_lt ha, Nat.mod_eq_of_lt hb, u32w _ (and_lt ha)]
theorem u32or_nat (a b : Nat) (ha : a < 4294967296) (hb : b < 4294967296) : u32or (a : Int) (b : Int) = ((a ||| b : Nat) : Int) := by
  unfold u32or
  rw [ofInt32, ofInt32]
  show IntKind.u32.wrap (((BitVec.ofNat 32 a ||| BitVec.ofNat 32 b).toNat : Nat) : Int) = _
  rw [BitVec.toNat_or, BitVec.toNat_ofNat, BitVec.toNat_ofNat, Nat.mod_eq_of_lt ha, Nat.mod_eq_of_lt hb, u32w _ (Nat.or_lt_two_pow (n := 32) ha hb)]
/-- What a has and b has not. -/
theorem u32an_bits (a b : Nat) (ha : a < 4294967296) (hb : b < 4294967296) : ((u32an (a : Int) (b : Int) != 0) = false) ↔ ∀ j, a.testBit j = true → b.testBit j = true := by
  have e : u32an (a : Int) (b : Int) = (((BitVec.ofNat 32 a &&& ~~~BitVec.ofNat 32 b).toNat : Nat) : Int) := by
    unfold u32an
    rw [ofInt32, ofInt32]
    exact u32w _ (BitVec.isLt _)
  rw [e, bne_eq_false_iff_eq]
  have tb : ∀ (x : BitVec 32) (j : Nat), x.toNat.testBit j = x.getLsbD j := fun x j => rfl
  constructor
  · intro h j hj
    have h0 : (BitVec.ofNat 32 a &&& ~~~BitVec.ofNat 32 b).toNat = 0 := Int.natCast_inj.1 h
    have hj32 : j < 32 := by
      rcases Nat.lt_or_ge j 32 with h | h
      · exact h
      · rw [Nat.testBit_lt_two_pow (Nat.lt_of_lt_of_le ha (Nat.pow_le_pow_right (by decide) h : 2 ^ 32 ≤ 2 ^ j))] at hj; cases hj
    have h1 : (BitVec.ofNat 32 a &&& ~~~BitVec.ofNat 32 b).getLsbD j = false := by rw [← tb, h0, Nat.zero_testBit]
    rw [BitVec.getLsbD_and, BitVec.getLsbD_not, BitVec.getLsbD_ofNat, BitVec.getLsbD_ofNat, hj, decide_eq_true hj32] at h1
    simpa using h1
  · intro h
    have h0 : (BitVec.ofNat 32 a &&& ~~~BitVec.ofNat 32 b).toNat = 0 := by
      apply Nat.eq_of_testBit_eq
      intro j
      rw [tb, Nat.zero_testBit, BitVec.getLsbD_and, BitVec.getLsbD_not, BitVec.getLsbD_ofNat, BitVec.getLsbD_ofNat]
      rcases Nat.lt_or_ge j 32 with h3 | h3
      · rw [decide_eq_true h3]
        cases ha : a.testBit j with
        | false => rfl
        | true => rw [h j ha]; rfl
      · rw [decide_eq_false (by omega)]; rfl
    rw [h0]; rfl
theorem min_bits (i : Nat) (h : i < 32) : min ((i : Int)).toNat IntKind.u32.bits = i := by
  rw [Int.toNat_natCast]
  have : IntKind.u32.bits = 32 := rfl
  omega
theorem min_bits64 (i : Nat) (h : i < 32) : min ((i : Int)).toNat IntKind.i64.bits = i := by
  rw [Int.toNat_natCast]
  have : IntKind.i64.bits = 64 := rfl
  omega
theorem pow_lt (i : Nat) (h : i < 32) : 2 ^ i < 4294967296 := Nat.pow_lt_pow_right (by decide) h
theorem one_nat (i : Nat) (h : i < 32) : one (i : Int) = ((2 ^ i : Nat) : Int) := by
  unfold one
  rw [min_bits i h, Int.one_mul, show (2 : Int) ^ i = ((2 ^ i : Nat) : Int) by rw [Int.natCast_pow]; rfl, u32w _ (pow_lt i h)]
theorem onI_nat (i : Nat) (h : i < 32) : onI (i : Int) = ((2 ^ i : Nat) : Int) := by
  unfold onI
  rw [min_bits64 i h, Int.one_mul, show (2 : Int) ^ i = ((2 ^ i : Nat) : Int) by rw [Int.natCast_pow]; rfl, i64w _ (Nat.lt_trans (pow_lt i h) (by decide))]
theorem and_two (S i : Nat) : S &&& 2 ^ i = bif S.testBit i then 2 ^ i else 0 := by
  apply Nat.eq_of_testBit_eq
  intro j
  rw [Nat.testBit_and, Nat.testBit_two_pow]
  by_cases hj : i = j
  · subst hj
    rw [decide_eq_true rfl, Bool.and_true]
    cases S.testBit i with
    | false => rw [cond_false, Nat.zero_testBit]
    | true => rw [cond_true, Nat.testBit_two_pow_self]
  · rw [decide_eq_false hj, Bool.and_false]
    cases S.testBit i with
    | false => rw [cond_false, Nat.zero_testBit]
    | true => rw [cond_true, Nat.testBit_two_pow, decide_eq_false hj]
theorem and_pow (S i : Nat) : (((S &&& 2 ^ i : Nat) : Int) != 0) = S.testBit i := by
  rw [and_two]
  cases S.testBit i with
  | false => rfl
  | true =>
    rw [bne_iff_ne]
    have := Nat.two_pow_pos i
    show ((2 ^ i : Nat) : Int) ≠ 0
    intro h
    have := Int.natCast_inj.1 (h : ((2 ^ i : Nat) : Int) = ((0 : Nat) : Int))
    omega
theorem has_bit (S i : Nat) (hS : S < 4294967296) (hi : i < 32) : (u32and (S : Int) (one (i : Int)) != 0) = S.testBit i := by
  rw [one_nat i hi, u32and_nat S _ hS (pow_lt i hi), and_pow]
theorem sub_bits (S M : Nat) (hS : S < 4294967296) (hM : M < 4294967296) : (u32and (S : Int) (M : Int) == (M : Int)) = true ↔ ∀ j, M.testBit j = true → S.testBit j = true := by
  rw [u32and_nat S M hS hM, beq_iff_eq, Int.natCast_inj]
  constructor
  · intro h j hj
    have := congrArg (fun z => z.testBit j) h
    simp only [Nat.testBit_and, hj] at this
    simpa using this
  · intro h
    apply Nat.eq_of_testBit_eq
    intro j
    rw [Nat.testBit_and]
    cases hM : M.testBit j with
    | false => simp
    | true => rw [h j hM]; rfl
theorem bt_nat (S i : Nat) (hS : S < 4294967296) (hi : i < 32) : bt (S : Int) (i : Int) = ((S.testBit i).toNat : Int) := by
  unfold bt
  rw [min_bits64 i hi, show (2 : Int) ^ i = ((2 ^ i : Nat) : Int) by rw [Int.natCast_pow]; rfl]
  have e : (S : Int).fdiv ((2 ^ i : Nat) : Int) = ((S / 2 ^ i : Nat) : Int) := by
    rw [Int.fdiv_eq_ediv_of_nonneg _ (Int.natCast_nonneg _)]; rfl
  rw [e, ofInt64, show BitVec.ofInt IntKind.i64.bits (1 : Int) = BitVec.ofNat 64 1 from ofInt64 1]
  show IntKind.i64.wrap (((BitVec.ofNat 64 (S / 2 ^ i) &&& BitVec.ofNat 64 1).toNat : Nat) : Int) = _
  have h1 : S / 2 ^ i < 2 ^ 64 := Nat.lt_of_le_of_lt (Nat.div_le_self _ _) (Nat.lt_trans hS (by decide))
  rw [BitVec.toNat_and, BitVec.toNat_ofNat, BitVec.toNat_ofNat, Nat.mod_eq_of_lt h1, Nat.mod_eq_of_lt (by decide), Nat.and_one_is_mod]
  have h2 : S / 2 ^ i % 2 = (S.testBit i).toNat := by
    rw [Nat.testBit_eq_decide_div_mod_eq]
    rcases Nat.mod_two_eq_zero_or_one (S / 2 ^ i) with h | h <;> rw [h] <;> rfl
  rw [h2]
  exact i64w _ (by cases S.testBit i <;> decide)
theorem add_or (S i : Nat) (hS : S < 65536) (hi : i < 16) (h : S.testBit i = false) : S + 2 ^ i = S ||| 2 ^ i := by
  have hp : 2 ^ i < 65536 := Nat.pow_lt_pow_right (by decide) hi
  have hz : BitVec.ofNat 32 S &&& BitVec.ofNat 32 (2 ^ i) = 0#32 := by
    apply BitVec.eq_of_toNat_eq
    rw [BitVec.toNat_and, BitVec.toNat_ofNat, BitVec.toNat_ofNat, Nat.mod_eq_of_lt (by omega), Nat.mod_eq_of_lt (by omega), and_two, h, cond_false]; rfl
  have e := congrArg BitVec.toNat (BitVec.add_eq_or_of_and_eq_zero _ _ hz)
  rw [BitVec.toNat_add, BitVec.toNat_or, BitVec.toNat_ofNat, BitVec.toNat_ofNat, Nat.mod_eq_of_lt (by omega : S < 2 ^ 32), Nat.mod_eq_of_lt (by omega : 2 ^ i < 2 ^ 32), Nat.mod_eq_of_lt (by omega)] at e
  exact e
theorem addS_nat (S i : Nat) (hS : S < 65536) (hi : i < 16) (h : S.testBit i = false) : addS (S : Int) (i : Int) = ((S ||| 2 ^ i : Nat) : Int) := by
  unfold addS
  rw [onI_nat i (by omega), ← Int.natCast_add, add_or S i hS hi h]
  exact i64w _ (Nat.lt_trans (Nat.or_lt_two_pow (n := 16) hS (Nat.pow_lt_pow_right (by decide) hi)) (by decide))
end Go.Proofs.Ytdjdbjcapenjeaa.KP1
