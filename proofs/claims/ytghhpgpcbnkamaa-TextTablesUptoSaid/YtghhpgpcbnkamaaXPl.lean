/- Plain facts about byte strings as lists of numbers, in the words of the printed functions. No program in sight. -/
import Derived.Test.YtghhpgpcbnkamaaWWords
import Derived.Test.YtghhpgpcbnkamaaWAll
import Derived.Laws.BitsLemmas
import Derived.Laws.Bits64
import Derived.Lib.Strings
set_option linter.unusedVariables false
set_option linter.unusedSimpArgs false
namespace Go.Proofs.Ytghhpgpcbnkamaa.PL
open Go.RowKit Go.Proofs.YtghhpgpcbnkamaaW.PrintWords

theorem wrap64_id {x : Int} (h0 : -9223372036854775808 ≤ x) (h1 : x ≤ 9223372036854775807) : wrap64 x = x := by unfold wrap64; omega
theorem u64_wrap (x : Int) : IntKind.u64.wrap x = x % 18446744073709551616 := IntKind.wrap_u64 x
theorem u64_id {x : Int} (h0 : 0 ≤ x) (h1 : x < 18446744073709551616) : IntKind.u64.wrap x = x := by rw [u64_wrap]; omega

/-- x's low four bits are zero: 'or' adds. -/
theorem u64_or4 {x y : Int} (hx0 : 0 ≤ x) (hx1 : x < 18446744073709551616) (hx : x % 16 = 0) (h0 : 0 ≤ y) (h1 : y < 16) : Go.bits .or .u64 x y = x + y :=
  bits_join .u64 64 (by decide) (fun n a b => u64_id a b) 4 x y hx0 (by simpa using hx) (by simpa using hx1) h0 (by simpa using h1) (by simp; omega)

theorem bt_nat (s : ByteArray) (i : Int) : bt s i = ((s.data.toList.getD i.toNat 0).toNat : Int) := by
  unfold bt
  split
  · rename_i h
    rw [List.getD_eq_getElem?_getD, List.getElem?_eq_getElem (by rw [data_length]; exact h)]
    rfl
  · rename_i h
    rw [List.getD_eq_getElem?_getD, List.getElem?_eq_none (by rw [data_length]; omega)]
    rfl
theorem bt_lt (s : ByteArray) (i : Int) : bt s i < 256 := by have := (bt_range s i).2; omega
theorem bt_ge (s : ByteArray) (i : Int) : 0 ≤ bt s i := (bt_range s i).1
theorem toList_data (s : ByteArray) : s.toList = s.data.toList := ByteArray.toList_eq s
theorem extract_list (s : ByteArray) (a b : Nat) : (s.extract a b).toList = (s.data.toList.drop a).take (b - a) := Lib.extract_toList s a b
theorem size_list (s : ByteArray) : s.data.toList.length = s.size := data_length s

/-! ### numbers of decimal digits -/
def vl : List UInt8 → Int
  | [] => 0
  | c :: l => ((c.toNat : Int) - 48) * 10 ^ l.length + vl l
def Dig (l : List UInt8) : Prop := ∀ c ∈ l, 48 ≤ (c.toNat : Int) ∧ (c.toNat : Int) ≤ 57
theorem pow_pos10 (n : Nat) : (1 : Int) ≤ 10 ^ n := by
  induction n with
  | zero => simp
  | succ n ih => rw [Int.pow_succ]; omega
theorem vl_bound : ∀ {l : List UInt8}, Dig l → 0 ≤ vl l ∧ vl l < 10 ^ l.length
  | [], _ => by simp [vl]
  | c :: l, h => by
    have ih := vl_bound (l := l) (fun x hx => h x (List.mem_cons_of_mem _ hx))
    have hc := h c List.mem_cons_self
    have hp := pow_pos10 l.length
    simp only [vl, List.length_cons, Int.pow_succ]
    have h1 : 0 ≤ ((c.toNat : Int) - 48) * 10 ^ l.length := Int.mul_nonneg (by omega) (by omega)
    have h2 : ((c.toNat : Int) - 48) * 10 ^ l.length ≤ 9 * 10 ^ l.length := Int.mul_le_mul_of_nonneg_right (by omega) (by omega)
    omega
theorem vl_low {c : UInt8} {l : List UInt8} (h : Dig (c :: l)) (hc : (c.toNat : Int) ≠ 48) : 10 ^ l.length ≤ vl (c :: l) := by
  have ih := vl_bound (l := l) (fun x hx => h x (List.mem_cons_of_mem _ hx))
  have hc := h c List.mem_cons_self
  have hp := pow_pos10 l.length
  simp only [vl]
  have h2 : 1 * (10 : Int) ^ l.length ≤ ((c.toNat : Int) - 48) * 10 ^ l.length := Int.mul_le_mul_of_nonneg_right (by omega) (by omega)
  omega
theorem vl_snoc (c : UInt8) : ∀ l : List UInt8, vl (l ++ [c]) = 10 * vl l + ((c.toNat : Int) - 48)
  | [] => by simp [vl]
  | a :: l => by
    simp only [List.cons_append, vl, vl_snoc c l, List.length_append, List.length_singleton, Int.pow_succ]
    have : ((a.toNat : Int) - 48) * (10 ^ l.length * 10) = 10 * (((a.toNat : Int) - 48) * 10 ^ l.length) := by rw [← Int.mul_assoc, Int.mul_comm]
    omega
theorem less_vl : ∀ (x y : List UInt8), x.length = y.length → Dig x → Dig y → (Op.bytesLess x y = true ↔ vl x < vl y)
  | [], [], _, _, _ => by simp [Op.bytesLess, vl]
  | [], _ :: _, h, _, _ => by simp at h
  | _ :: _, [], h, _, _ => by simp at h
  | a :: x, b :: y, h, hx, hy => by
    have hl : x.length = y.length := by simpa using h
    have hx' : Dig x := fun c hc => hx c (List.mem_cons_of_mem _ hc)
    have hy' : Dig y := fun c hc => hy c (List.mem_cons_of_mem _ hc)
    have ih := less_vl x y hl hx' hy'
    have bx := vl_bound hx'
    have bY := vl_bound hy'
    have h1 := @UInt8.lt_iff_toNat_lt a b
    have ha := hx a List.mem_cons_self
    have hb := hy b List.mem_cons_self
    simp only [Op.bytesLess, vl, hl] at *
    rw [Bool.or_eq_true, Bool.and_eq_true, decide_eq_true_eq, beq_iff_eq, ih]
    generalize hP : (10 : Int) ^ y.length = P at *
    by_cases c1 : a = b
    · subst c1
      simp only [true_and]
      rw [h1]
      omega
    · have c2 : a.toNat ≠ b.toNat := fun e => c1 (UInt8.toNat_inj.1 e)
      simp only [c1, false_and, or_false]
      rw [h1]
      rcases Nat.lt_or_ge a.toNat b.toNat with hlt | hge
      · have e : ((b.toNat : Int) - 48) * P = ((a.toNat : Int) - 48) * P + ((b.toNat : Int) - a.toNat) * P := by rw [← Int.add_mul]; congr 1; omega
        have g : 1 * P ≤ ((b.toNat : Int) - a.toNat) * P := Int.mul_le_mul_of_nonneg_right (by omega) (by omega)
        constructor
        · intro _; omega
        · intro _; exact hlt
      · have e : ((a.toNat : Int) - 48) * P = ((b.toNat : Int) - 48) * P + ((a.toNat : Int) - b.toNat) * P := by rw [← Int.add_mul]; congr 1; omega
        have g : 1 * P ≤ ((a.toNat : Int) - b.toNat) * P := Int.mul_le_mul_of_nonneg_right (by omega) (by omega)
        constructor
        · intro h; omega
        · intro h; omega
end Go.Proofs.Ytghhpgpcbnkamaa.PL
