-- Written by printx.py (this work's driver over the kit's print) out of the translation; Lean checks it.
import Derived.WalkLawsBesides
import Derived.Test.YtplhcnlpfoiieaaPx0
namespace Go.Proofs.Ytplhcnlpfoiieaa.P
open Go.RowKit Go.Proofs.YtplhcnlpfoiieaaW.PrintWords Go.Proofs.YtplhcnlpfoiieaaW.PrintLast Go.Proofs.YtplhcnlpfoiieaaW.PrintMore
attribute [local go_sem] max2_int min2_int max_two min_two max_three min_three max_four min_four   -- for this text's walks alone
set_option linter.unusedVariables false
set_option linter.unusedSimpArgs false

/-! ### shardref1_over: function 45 -/
-- GIVEN
theorem shardref1_over.flip : ∀ x y : List UInt8, (!Op.bytesLess x y && !(x == y)) = Op.bytesLess y x
  | [], [] => by simp [Op.bytesLess]
  | [], _ :: _ => by simp [Op.bytesLess]
  | _ :: _, [] => by simp [Op.bytesLess]
  | a :: x, b :: y => by
    have ih := shardref1_over.flip x y
    have h1 := @UInt8.lt_iff_toNat_lt a b
    have h2 := @UInt8.lt_iff_toNat_lt b a
    have h3 : a = b ↔ a.toNat = b.toNat := ⟨fun h => by rw [h], fun h => UInt8.toNat_inj.1 h⟩
    simp only [Op.bytesLess, ← ih, List.cons_beq_cons]
    by_cases c1 : a = b
    · subst c1
      simp
    · have c2 : ¬ b = a := fun h => c1 h.symm
      simp only [beq_eq_false_iff_ne.2 c1, beq_eq_false_iff_ne.2 c2, Bool.false_and, Bool.or_false, Bool.not_false, Bool.and_true]
      rw [Bool.eq_iff_iff]
      simp only [Bool.not_eq_true', decide_eq_false_iff_not, decide_eq_true_eq, h1, h2]
      have c3 : a.toNat ≠ b.toNat := fun e => c1 (h3.2 e)
      omega
def shardref1_over.f (a0 : ByteArray) : Option (Bool) := if (a0.size : Int) = 20 then (some (Op.bytesLess ([49, 56, 52, 52, 54, 55, 52, 52, 48, 55, 51, 55, 48, 57, 53, 53, 49, 54, 49, 53] : List UInt8) a0.toList)) else (some (decide ((a0.size : Int) > 20)))
set_option maxHeartbeats 8000000 in
set_option maxRecDepth 100000 in
theorem shardref1_over.calls (a0 : ByteArray) (r : Bool) (w : World) (h : shardref1_over.f a0 = some r) :
    Calls Try.prog 45 #[.string a0] w fun e w' => e = .returned (.bool r) ∧ Drawn0 w w' := by
  unfold shardref1_over.f at h
  by_cases c2 : (a0.size : Int) = 20
  · rw [if_pos c2] at h
    have c2b0 : ((a0.size : Int) == 20) = true := beq_iff_eq.mpr c2
    have c2b1 : ((a0.size : Int) != 20) = false := bne_eq_false_iff_eq.mpr c2
    clear c2
    have h' := Option.some.inj h
    rw [← shardref1_over.flip] at h'
    subst h'
    clear h
    go_enter Try.func45, Try.ntmps45
    go_wp2
    go_ret
    exact ⟨by first | rfl | (simp; done) | (simp [*]; done), by repeat (first | exact Drawn0.refl _ | apply Drawn0.step)⟩
  · rw [if_neg c2] at h
    have c2b0 : ((a0.size : Int) == 20) = false := beq_eq_false_iff_ne.mpr c2
    have c2b1 : ((a0.size : Int) != 20) = true := bne_iff_ne.mpr c2
    obtain rfl := Option.some.inj h
    go_enter Try.func45, Try.ntmps45
    go_wp2
    go_ret
    exact ⟨by first | rfl | (simp; done) | (simp [*]; done), by repeat (first | exact Drawn0.refl _ | apply Drawn0.step)⟩

end Go.Proofs.Ytplhcnlpfoiieaa.P
