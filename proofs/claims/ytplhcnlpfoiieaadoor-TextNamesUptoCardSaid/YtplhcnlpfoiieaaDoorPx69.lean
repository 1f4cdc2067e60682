-- Written by printx.py (this work's driver over the kit's print) out of the translation; Lean checks it.
import Derived.Test.YtplhcnlpfoiieaaDoorPx0
namespace Go.Proofs.YtplhcnlpfoiieaaDoor.P
open Go.RowKit Go.Proofs.YtplhcnlpfoiieaaDoorW.PrintWords Go.Proofs.YtplhcnlpfoiieaaDoorW.PrintLast Go.Proofs.YtplhcnlpfoiieaaDoorW.PrintMore
attribute [local go_sem] max2_int min2_int max_two min_two max_three min_three max_four min_four   -- for this text's walks alone
set_option linter.unusedVariables false
set_option linter.unusedSimpArgs false

/-! ### shardref1_letter: function 32 -/
-- GIVEN

def shardref1_letter.f (a0 : Int) : Option (Bool) := some (decide ((65 ≤ a0 ∧ a0 ≤ 90) ∨ (97 ≤ a0 ∧ a0 ≤ 122) ∨ (192 ≤ a0 ∧ a0 ≤ 214) ∨ (216 ≤ a0 ∧ a0 ≤ 246) ∨ (248 ≤ a0 ∧ a0 ≤ 255) ∨ (913 ≤ a0 ∧ a0 ≤ 929) ∨ (931 ≤ a0 ∧ a0 ≤ 937) ∨ (945 ≤ a0 ∧ a0 ≤ 969) ∨ (1040 ≤ a0 ∧ a0 ≤ 1103)))
set_option maxHeartbeats 4000000 in
set_option maxRecDepth 100000 in
theorem shardref1_letter.c0 (a0 : Int) (h1 : a0 ≤ 64) (w : World) : Calls Tryd.prog 32 #[.int .i64 a0] w fun e w' => e = .returned (.bool false) ∧ Drawn0 w w' := by
  have n215 : (a0 == 215) = false := beq_eq_false_iff_ne.mpr (by omega)
  have m215 : (a0 != 215) = true := bne_iff_ne.mpr (by omega)
  have n247 : (a0 == 247) = false := beq_eq_false_iff_ne.mpr (by omega)
  have m247 : (a0 != 247) = true := bne_iff_ne.mpr (by omega)
  have n930 : (a0 == 930) = false := beq_eq_false_iff_ne.mpr (by omega)
  have m930 : (a0 != 930) = true := bne_iff_ne.mpr (by omega)
  go_enter Tryd.func32, Tryd.ntmps32
  go_wp2
  go_ret
  refine ⟨?_, Drawn0.refl _⟩
  first | rfl | (show Ending.returned (.bool _) = .returned (.bool _); congr 2; first | (simp; done) | (simp; omega))
set_option maxHeartbeats 4000000 in
set_option maxRecDepth 100000 in
theorem shardref1_letter.c1 (a0 : Int) (h0 : 65 ≤ a0) (h1 : a0 ≤ 90) (w : World) : Calls Tryd.prog 32 #[.int .i64 a0] w fun e w' => e = .returned (.bool true) ∧ Drawn0 w w' := by
  have n215 : (a0 == 215) = false := beq_eq_false_iff_ne.mpr (by omega)
  have m215 : (a0 != 215) = true := bne_iff_ne.mpr (by omega)
  have n247 : (a0 == 247) = false := beq_eq_false_iff_ne.mpr (by omega)
  have m247 : (a0 != 247) = true := bne_iff_ne.mpr (by omega)
  have n930 : (a0 == 930) = false := beq_eq_false_iff_ne.mpr (by omega)
  have m930 : (a0 != 930) = true := bne_iff_ne.mpr (by omega)
  go_enter Tryd.func32, Tryd.ntmps32
  go_wp2
  go_ret
  refine ⟨?_, Drawn0.refl _⟩
  first | rfl | (show Ending.returned (.bool _) = .returned (.bool _); congr 2; first | (simp; done) | (simp; omega))
set_option maxHeartbeats 4000000 in
set_option maxRecDepth 100000 in
theorem shardref1_letter.c2 (a0 : Int) (h0 : 91 ≤ a0) (h1 : a0 ≤ 96) (w : World) : Calls Tryd.prog 32 #[.int .i64 a0] w fun e w' => e = .returned (.bool false) ∧ Drawn0 w w' := by
  have n215 : (a0 == 215) = false := beq_eq_false_iff_ne.mpr (by omega)
  have m215 : (a0 != 215) = true := bne_iff_ne.mpr (by omega)
  have n247 : (a0 == 247) = false := beq_eq_false_iff_ne.mpr (by omega)
  have m247 : (a0 != 247) = true := bne_iff_ne.mpr (by omega)
  have n930 : (a0 == 930) = false := beq_eq_false_iff_ne.mpr (by omega)
  have m930 : (a0 != 930) = true := bne_iff_ne.mpr (by omega)
  go_enter Tryd.func32, Tryd.ntmps32
  go_wp2
  go_ret
  refine ⟨?_, Drawn0.refl _⟩
  first | rfl | (show Ending.returned (.bool _) = .returned (.bool _); congr 2; first | (simp; done) | (simp; omega))
set_option maxHeartbeats 4000000 in
set_option maxRecDepth 100000 in
theorem shardref1_letter.c3 (a0 : Int) (h0 : 97 ≤ a0) (h1 : a0 ≤ 122) (w : World) : Calls Tryd.prog 32 #[.int .i64 a0] w fun e w' => e = .returned (.bool true) ∧ Drawn0 w w' := by
  have n215 : (a0 == 215) = false := beq_eq_false_iff_ne.mpr (by omega)
  have m215 : (a0 != 215) = true := bne_iff_ne.mpr (by omega)
  have n247 : (a0 == 247) = false := beq_eq_false_iff_ne.mpr (by omega)
  have m247 : (a0 != 247) = true := bne_iff_ne.mpr (by omega)
  have n930 : (a0 == 930) = false := beq_eq_false_iff_ne.mpr (by omega)
  have m930 : (a0 != 930) = true := bne_iff_ne.mpr (by omega)
  go_enter Tryd.func32, Tryd.ntmps32
  go_wp2
  go_ret
  refine ⟨?_, Drawn0.refl _⟩
  first | rfl | (show Ending.returned (.bool _) = .returned (.bool _); congr 2; first | (simp; done) | (simp; omega))
set_option maxHeartbeats 4000000 in
set_option maxRecDepth 100000 in
theorem shardref1_letter.c4 (a0 : Int) (h0 : 123 ≤ a0) (h1 : a0 ≤ 191) (w : World) : Calls Tryd.prog 32 #[.int .i64 a0] w fun e w' => e = .returned (.bool false) ∧ Drawn0 w w' := by
  have n215 : (a0 == 215) = false := beq_eq_false_iff_ne.mpr (by omega)
  have m215 : (a0 != 215) = true := bne_iff_ne.mpr (by omega)
  have n247 : (a0 == 247) = false := beq_eq_false_iff_ne.mpr (by omega)
  have m247 : (a0 != 247) = true := bne_iff_ne.mpr (by omega)
  have n930 : (a0 == 930) = false := beq_eq_false_iff_ne.mpr (by omega)
  have m930 : (a0 != 930) = true := bne_iff_ne.mpr (by omega)
  go_enter Tryd.func32, Tryd.ntmps32
  go_wp2
  go_ret
  refine ⟨?_, Drawn0.refl _⟩
  first | rfl | (show Ending.returned (.bool _) = .returned (.bool _); congr 2; first | (simp; done) | (simp; omega))
set_option maxHeartbeats 4000000 in
set_option maxRecDepth 100000 in
theorem shardref1_letter.c5 (a0 : Int) (h0 : 192 ≤ a0) (h1 : a0 ≤ 214) (w : World) : Calls Tryd.prog 32 #[.int .i64 a0] w fun e w' => e = .returned (.bool true) ∧ Drawn0 w w' := by
  have n215 : (a0 == 215) = false := beq_eq_false_iff_ne.mpr (by omega)
  have m215 : (a0 != 215) = true := bne_iff_ne.mpr (by omega)
  have n247 : (a0 == 247) = false := beq_eq_false_iff_ne.mpr (by omega)
  have m247 : (a0 != 247) = true := bne_iff_ne.mpr (by omega)
  have n930 : (a0 == 930) = false := beq_eq_false_iff_ne.mpr (by omega)
  have m930 : (a0 != 930) = true := bne_iff_ne.mpr (by omega)
  go_enter Tryd.func32, Tryd.ntmps32
  go_wp2
  go_ret
  refine ⟨?_, Drawn0.refl _⟩
  first | rfl | (show Ending.returned (.bool _) = .returned (.bool _); congr 2; first | (simp; done) | (simp; omega))
set_option maxHeartbeats 4000000 in
set_option maxRecDepth 100000 in
theorem shardref1_letter.c6 (a0 : Int) (h0 : 215 ≤ a0) (h1 : a0 ≤ 215) (w : World) : Calls Tryd.prog 32 #[.int .i64 a0] w fun e w' => e = .returned (.bool false) ∧ Drawn0 w w' := by
  obtain rfl : a0 = 215 := by omega
  go_enter Tryd.func32, Tryd.ntmps32
  go_wp2
  go_ret
  refine ⟨?_, Drawn0.refl _⟩
  first | rfl | (show Ending.returned (.bool _) = .returned (.bool _); congr 2; first | (simp; done) | (simp; omega))
set_option maxHeartbeats 4000000 in
set_option maxRecDepth 100000 in
theorem shardref1_letter.c7 (a0 : Int) (h0 : 216 ≤ a0) (h1 : a0 ≤ 246) (w : World) : Calls Tryd.prog 32 #[.int .i64 a0] w fun e w' => e = .returned (.bool true) ∧ Drawn0 w w' := by
  have n215 : (a0 == 215) = false := beq_eq_false_iff_ne.mpr (by omega)
  have m215 : (a0 != 215) = true := bne_iff_ne.mpr (by omega)
  have n247 : (a0 == 247) = false := beq_eq_false_iff_ne.mpr (by omega)
  have m247 : (a0 != 247) = true := bne_iff_ne.mpr (by omega)
  have n930 : (a0 == 930) = false := beq_eq_false_iff_ne.mpr (by omega)
  have m930 : (a0 != 930) = true := bne_iff_ne.mpr (by omega)
  go_enter Tryd.func32, Tryd.ntmps32
  go_wp2
  go_ret
  refine ⟨?_, Drawn0.refl _⟩
  first | rfl | (show Ending.returned (.bool _) = .returned (.bool _); congr 2; first | (simp; done) | (simp; omega))
set_option maxHeartbeats 4000000 in
set_option maxRecDepth 100000 in
theorem shardref1_letter.c8 (a0 : Int) (h0 : 247 ≤ a0) (h1 : a0 ≤ 247) (w : World) : Calls Tryd.prog 32 #[.int .i64 a0] w fun e w' => e = .returned (.bool false) ∧ Drawn0 w w' := by
  obtain rfl : a0 = 247 := by omega
  go_enter Tryd.func32, Tryd.ntmps32
  go_wp2
  go_ret
  refine ⟨?_, Drawn0.refl _⟩
  first | rfl | (show Ending.returned (.bool _) = .returned (.bool _); congr 2; first | (simp; done) | (simp; omega))
set_option maxHeartbeats 4000000 in
set_option maxRecDepth 100000 in
theorem shardref1_letter.c9 (a0 : Int) (h0 : 248 ≤ a0) (h1 : a0 ≤ 255) (w : World) : Calls Tryd.prog 32 #[.int .i64 a0] w fun e w' => e = .returned (.bool true) ∧ Drawn0 w w' := by
  have n215 : (a0 == 215) = false := beq_eq_false_iff_ne.mpr (by omega)
  have m215 : (a0 != 215) = true := bne_iff_ne.mpr (by omega)
  have n247 : (a0 == 247) = false := beq_eq_false_iff_ne.mpr (by omega)
  have m247 : (a0 != 247) = true := bne_iff_ne.mpr (by omega)
  have n930 : (a0 == 930) = false := beq_eq_false_iff_ne.mpr (by omega)
  have m930 : (a0 != 930) = true := bne_iff_ne.mpr (by omega)
  go_enter Tryd.func32, Tryd.ntmps32
  go_wp2
  go_ret
  refine ⟨?_, Drawn0.refl _⟩
  first | rfl | (show Ending.returned (.bool _) = .returned (.bool _); congr 2; first | (simp; done) | (simp; omega))
set_option maxHeartbeats 4000000 in
set_option maxRecDepth 100000 in
theorem shardref1_letter.c10 (a0 : Int) (h0 : 256 ≤ a0) (h1 : a0 ≤ 912) (w : World) : Calls Tryd.prog 32 #[.int .i64 a0] w fun e w' => e = .returned (.bool false) ∧ Drawn0 w w' := by
  have n215 : (a0 == 215) = false := beq_eq_false_iff_ne.mpr (by omega)
  have m215 : (a0 != 215) = true := bne_iff_ne.mpr (by omega)
  have n247 : (a0 == 247) = false := beq_eq_false_iff_ne.mpr (by omega)
  have m247 : (a0 != 247) = true := bne_iff_ne.mpr (by omega)
  have n930 : (a0 == 930) = false := beq_eq_false_iff_ne.mpr (by omega)
  have m930 : (a0 != 930) = true := bne_iff_ne.mpr (by omega)
  go_enter Tryd.func32, Tryd.ntmps32
  go_wp2
  go_ret
  refine ⟨?_, Drawn0.refl _⟩
  first | rfl | (show Ending.returned (.bool _) = .returned (.bool _); congr 2; first | (simp; done) | (simp; omega))
set_option maxHeartbeats 4000000 in
set_option maxRecDepth 100000 in
theorem shardref1_letter.c11 (a0 : Int) (h0 : 913 ≤ a0) (h1 : a0 ≤ 929) (w : World) : Calls Tryd.prog 32 #[.int .i64 a0] w fun e w' => e = .returned (.bool true) ∧ Drawn0 w w' := by
  have n215 : (a0 == 215) = false := beq_eq_false_iff_ne.mpr (by omega)
  have m215 : (a0 != 215) = true := bne_iff_ne.mpr (by omega)
  have n247 : (a0 == 247) = false := beq_eq_false_iff_ne.mpr (by omega)
  have m247 : (a0 != 247) = true := bne_iff_ne.mpr (by omega)
  have n930 : (a0 == 930) = false := beq_eq_false_iff_ne.mpr (by omega)
  have m930 : (a0 != 930) = true := bne_iff_ne.mpr (by omega)
  go_enter Tryd.func32, Tryd.ntmps32
  go_wp2
  go_ret
  refine ⟨?_, Drawn0.refl _⟩
  first | rfl | (show Ending.returned (.bool _) = .returned (.bool _); congr 2; first | (simp; done) | (simp; omega))
set_option maxHeartbeats 4000000 in
set_option maxRecDepth 100000 in
theorem shardref1_letter.c12 (a0 : Int) (h0 : 930 ≤ a0) (h1 : a0 ≤ 930) (w : World) : Calls Tryd.prog 32 #[.int .i64 a0] w fun e w' => e = .returned (.bool false) ∧ Drawn0 w w' := by
  obtain rfl : a0 = 930 := by omega
  go_enter Tryd.func32, Tryd.ntmps32
  go_wp2
  go_ret
  refine ⟨?_, Drawn0.refl _⟩
  first | rfl | (show Ending.returned (.bool _) = .returned (.bool _); congr 2; first | (simp; done) | (simp; omega))
set_option maxHeartbeats 4000000 in
set_option maxRecDepth 100000 in
theorem shardref1_letter.c13 (a0 : Int) (h0 : 931 ≤ a0) (h1 : a0 ≤ 937) (w : World) : Calls Tryd.prog 32 #[.int .i64 a0] w fun e w' => e = .returned (.bool true) ∧ Drawn0 w w' := by
  have n215 : (a0 == 215) = false := beq_eq_false_iff_ne.mpr (by omega)
  have m215 : (a0 != 215) = true := bne_iff_ne.mpr (by omega)
  have n247 : (a0 == 247) = false := beq_eq_false_iff_ne.mpr (by omega)
  have m247 : (a0 != 247) = true := bne_iff_ne.mpr (by omega)
  have n930 : (a0 == 930) = false := beq_eq_false_iff_ne.mpr (by omega)
  have m930 : (a0 != 930) = true := bne_iff_ne.mpr (by omega)
  go_enter Tryd.func32, Tryd.ntmps32
  go_wp2
  go_ret
  refine ⟨?_, Drawn0.refl _⟩
  first | rfl | (show Ending.returned (.bool _) = .returned (.bool _); congr 2; first | (simp; done) | (simp; omega))
set_option maxHeartbeats 4000000 in
set_option maxRecDepth 100000 in
theorem shardref1_letter.c14 (a0 : Int) (h0 : 938 ≤ a0) (h1 : a0 ≤ 944) (w : World) : Calls Tryd.prog 32 #[.int .i64 a0] w fun e w' => e = .returned (.bool false) ∧ Drawn0 w w' := by
  have n215 : (a0 == 215) = false := beq_eq_false_iff_ne.mpr (by omega)
  have m215 : (a0 != 215) = true := bne_iff_ne.mpr (by omega)
  have n247 : (a0 == 247) = false := beq_eq_false_iff_ne.mpr (by omega)
  have m247 : (a0 != 247) = true := bne_iff_ne.mpr (by omega)
  have n930 : (a0 == 930) = false := beq_eq_false_iff_ne.mpr (by omega)
  have m930 : (a0 != 930) = true := bne_iff_ne.mpr (by omega)
  go_enter Tryd.func32, Tryd.ntmps32
  go_wp2
  go_ret
  refine ⟨?_, Drawn0.refl _⟩
  first | rfl | (show Ending.returned (.bool _) = .returned (.bool _); congr 2; first | (simp; done) | (simp; omega))
set_option maxHeartbeats 4000000 in
set_option maxRecDepth 100000 in
theorem shardref1_letter.c15 (a0 : Int) (h0 : 945 ≤ a0) (h1 : a0 ≤ 969) (w : World) : Calls Tryd.prog 32 #[.int .i64 a0] w fun e w' => e = .returned (.bool true) ∧ Drawn0 w w' := by
  have n215 : (a0 == 215) = false := beq_eq_false_iff_ne.mpr (by omega)
  have m215 : (a0 != 215) = true := bne_iff_ne.mpr (by omega)
  have n247 : (a0 == 247) = false := beq_eq_false_iff_ne.mpr (by omega)
  have m247 : (a0 != 247) = true := bne_iff_ne.mpr (by omega)
  have n930 : (a0 == 930) = false := beq_eq_false_iff_ne.mpr (by omega)
  have m930 : (a0 != 930) = true := bne_iff_ne.mpr (by omega)
  go_enter Tryd.func32, Tryd.ntmps32
  go_wp2
  go_ret
  refine ⟨?_, Drawn0.refl _⟩
  first | rfl | (show Ending.returned (.bool _) = .returned (.bool _); congr 2; first | (simp; done) | (simp; omega))
set_option maxHeartbeats 4000000 in
set_option maxRecDepth 100000 in
theorem shardref1_letter.c16 (a0 : Int) (h0 : 970 ≤ a0) (h1 : a0 ≤ 1039) (w : World) : Calls Tryd.prog 32 #[.int .i64 a0] w fun e w' => e = .returned (.bool false) ∧ Drawn0 w w' := by
  have n215 : (a0 == 215) = false := beq_eq_false_iff_ne.mpr (by omega)
  have m215 : (a0 != 215) = true := bne_iff_ne.mpr (by omega)
  have n247 : (a0 == 247) = false := beq_eq_false_iff_ne.mpr (by omega)
  have m247 : (a0 != 247) = true := bne_iff_ne.mpr (by omega)
  have n930 : (a0 == 930) = false := beq_eq_false_iff_ne.mpr (by omega)
  have m930 : (a0 != 930) = true := bne_iff_ne.mpr (by omega)
  go_enter Tryd.func32, Tryd.ntmps32
  go_wp2
  go_ret
  refine ⟨?_, Drawn0.refl _⟩
  first | rfl | (show Ending.returned (.bool _) = .returned (.bool _); congr 2; first | (simp; done) | (simp; omega))
set_option maxHeartbeats 4000000 in
set_option maxRecDepth 100000 in
theorem shardref1_letter.c17 (a0 : Int) (h0 : 1040 ≤ a0) (h1 : a0 ≤ 1103) (w : World) : Calls Tryd.prog 32 #[.int .i64 a0] w fun e w' => e = .returned (.bool true) ∧ Drawn0 w w' := by
  have n215 : (a0 == 215) = false := beq_eq_false_iff_ne.mpr (by omega)
  have m215 : (a0 != 215) = true := bne_iff_ne.mpr (by omega)
  have n247 : (a0 == 247) = false := beq_eq_false_iff_ne.mpr (by omega)
  have m247 : (a0 != 247) = true := bne_iff_ne.mpr (by omega)
  have n930 : (a0 == 930) = false := beq_eq_false_iff_ne.mpr (by omega)
  have m930 : (a0 != 930) = true := bne_iff_ne.mpr (by omega)
  go_enter Tryd.func32, Tryd.ntmps32
  go_wp2
  go_ret
  refine ⟨?_, Drawn0.refl _⟩
  first | rfl | (show Ending.returned (.bool _) = .returned (.bool _); congr 2; first | (simp; done) | (simp; omega))
set_option maxHeartbeats 4000000 in
set_option maxRecDepth 100000 in
theorem shardref1_letter.c18 (a0 : Int) (h0 : 1104 ≤ a0) (w : World) : Calls Tryd.prog 32 #[.int .i64 a0] w fun e w' => e = .returned (.bool false) ∧ Drawn0 w w' := by
  have n215 : (a0 == 215) = false := beq_eq_false_iff_ne.mpr (by omega)
  have m215 : (a0 != 215) = true := bne_iff_ne.mpr (by omega)
  have n247 : (a0 == 247) = false := beq_eq_false_iff_ne.mpr (by omega)
  have m247 : (a0 != 247) = true := bne_iff_ne.mpr (by omega)
  have n930 : (a0 == 930) = false := beq_eq_false_iff_ne.mpr (by omega)
  have m930 : (a0 != 930) = true := bne_iff_ne.mpr (by omega)
  go_enter Tryd.func32, Tryd.ntmps32
  go_wp2
  go_ret
  refine ⟨?_, Drawn0.refl _⟩
  first | rfl | (show Ending.returned (.bool _) = .returned (.bool _); congr 2; first | (simp; done) | (simp; omega))
theorem shardref1_letter.calls (a0 : Int) (r : Bool) (w : World) (h : shardref1_letter.f a0 = some r) : Calls Tryd.prog 32 #[.int .i64 a0] w fun e w' => e = .returned (.bool r) ∧ Drawn0 w w' := by
  obtain rfl := Option.some.inj h
  by_cases k0 : a0 ≤ 64
  · rw [decide_eq_false (show ¬ ((65 ≤ a0 ∧ a0 ≤ 90) ∨ (97 ≤ a0 ∧ a0 ≤ 122) ∨ (192 ≤ a0 ∧ a0 ≤ 214) ∨ (216 ≤ a0 ∧ a0 ≤ 246) ∨ (248 ≤ a0 ∧ a0 ≤ 255) ∨ (913 ≤ a0 ∧ a0 ≤ 929) ∨ (931 ≤ a0 ∧ a0 ≤ 937) ∨ (945 ≤ a0 ∧ a0 ≤ 969) ∨ (1040 ≤ a0 ∧ a0 ≤ 1103)) by omega)]
    exact shardref1_letter.c0 a0 (by omega) w
  by_cases k1 : a0 ≤ 90
  · rw [decide_eq_true (show (65 ≤ a0 ∧ a0 ≤ 90) ∨ (97 ≤ a0 ∧ a0 ≤ 122) ∨ (192 ≤ a0 ∧ a0 ≤ 214) ∨ (216 ≤ a0 ∧ a0 ≤ 246) ∨ (248 ≤ a0 ∧ a0 ≤ 255) ∨ (913 ≤ a0 ∧ a0 ≤ 929) ∨ (931 ≤ a0 ∧ a0 ≤ 937) ∨ (945 ≤ a0 ∧ a0 ≤ 969) ∨ (1040 ≤ a0 ∧ a0 ≤ 1103) by omega)]
    exact shardref1_letter.c1 a0 (by omega) (by omega) w
  by_cases k2 : a0 ≤ 96
  · rw [decide_eq_false (show ¬ ((65 ≤ a0 ∧ a0 ≤ 90) ∨ (97 ≤ a0 ∧ a0 ≤ 122) ∨ (192 ≤ a0 ∧ a0 ≤ 214) ∨ (216 ≤ a0 ∧ a0 ≤ 246) ∨ (248 ≤ a0 ∧ a0 ≤ 255) ∨ (913 ≤ a0 ∧ a0 ≤ 929) ∨ (931 ≤ a0 ∧ a0 ≤ 937) ∨ (945 ≤ a0 ∧ a0 ≤ 969) ∨ (1040 ≤ a0 ∧ a0 ≤ 1103)) by omega)]
    exact shardref1_letter.c2 a0 (by omega) (by omega) w
  by_cases k3 : a0 ≤ 122
  · rw [decide_eq_true (show (65 ≤ a0 ∧ a0 ≤ 90) ∨ (97 ≤ a0 ∧ a0 ≤ 122) ∨ (192 ≤ a0 ∧ a0 ≤ 214) ∨ (216 ≤ a0 ∧ a0 ≤ 246) ∨ (248 ≤ a0 ∧ a0 ≤ 255) ∨ (913 ≤ a0 ∧ a0 ≤ 929) ∨ (931 ≤ a0 ∧ a0 ≤ 937) ∨ (945 ≤ a0 ∧ a0 ≤ 969) ∨ (1040 ≤ a0 ∧ a0 ≤ 1103) by omega)]
    exact shardref1_letter.c3 a0 (by omega) (by omega) w
  by_cases k4 : a0 ≤ 191
  · rw [decide_eq_false (show ¬ ((65 ≤ a0 ∧ a0 ≤ 90) ∨ (97 ≤ a0 ∧ a0 ≤ 122) ∨ (192 ≤ a0 ∧ a0 ≤ 214) ∨ (216 ≤ a0 ∧ a0 ≤ 246) ∨ (248 ≤ a0 ∧ a0 ≤ 255) ∨ (913 ≤ a0 ∧ a0 ≤ 929) ∨ (931 ≤ a0 ∧ a0 ≤ 937) ∨ (945 ≤ a0 ∧ a0 ≤ 969) ∨ (1040 ≤ a0 ∧ a0 ≤ 1103)) by omega)]
    exact shardref1_letter.c4 a0 (by omega) (by omega) w
  by_cases k5 : a0 ≤ 214
  · rw [decide_eq_true (show (65 ≤ a0 ∧ a0 ≤ 90) ∨ (97 ≤ a0 ∧ a0 ≤ 122) ∨ (192 ≤ a0 ∧ a0 ≤ 214) ∨ (216 ≤ a0 ∧ a0 ≤ 246) ∨ (248 ≤ a0 ∧ a0 ≤ 255) ∨ (913 ≤ a0 ∧ a0 ≤ 929) ∨ (931 ≤ a0 ∧ a0 ≤ 937) ∨ (945 ≤ a0 ∧ a0 ≤ 969) ∨ (1040 ≤ a0 ∧ a0 ≤ 1103) by omega)]
    exact shardref1_letter.c5 a0 (by omega) (by omega) w
  by_cases k6 : a0 ≤ 215
  · rw [decide_eq_false (show ¬ ((65 ≤ a0 ∧ a0 ≤ 90) ∨ (97 ≤ a0 ∧ a0 ≤ 122) ∨ (192 ≤ a0 ∧ a0 ≤ 214) ∨ (216 ≤ a0 ∧ a0 ≤ 246) ∨ (248 ≤ a0 ∧ a0 ≤ 255) ∨ (913 ≤ a0 ∧ a0 ≤ 929) ∨ (931 ≤ a0 ∧ a0 ≤ 937) ∨ (945 ≤ a0 ∧ a0 ≤ 969) ∨ (1040 ≤ a0 ∧ a0 ≤ 1103)) by omega)]
    exact shardref1_letter.c6 a0 (by omega) (by omega) w
  by_cases k7 : a0 ≤ 246
  · rw [decide_eq_true (show (65 ≤ a0 ∧ a0 ≤ 90) ∨ (97 ≤ a0 ∧ a0 ≤ 122) ∨ (192 ≤ a0 ∧ a0 ≤ 214) ∨ (216 ≤ a0 ∧ a0 ≤ 246) ∨ (248 ≤ a0 ∧ a0 ≤ 255) ∨ (913 ≤ a0 ∧ a0 ≤ 929) ∨ (931 ≤ a0 ∧ a0 ≤ 937) ∨ (945 ≤ a0 ∧ a0 ≤ 969) ∨ (1040 ≤ a0 ∧ a0 ≤ 1103) by omega)]
    exact shardref1_letter.c7 a0 (by omega) (by omega) w
  by_cases k8 : a0 ≤ 247
  · rw [decide_eq_false (show ¬ ((65 ≤ a0 ∧ a0 ≤ 90) ∨ (97 ≤ a0 ∧ a0 ≤ 122) ∨ (192 ≤ a0 ∧ a0 ≤ 214) ∨ (216 ≤ a0 ∧ a0 ≤ 246) ∨ (248 ≤ a0 ∧ a0 ≤ 255) ∨ (913 ≤ a0 ∧ a0 ≤ 929) ∨ (931 ≤ a0 ∧ a0 ≤ 937) ∨ (945 ≤ a0 ∧ a0 ≤ 969) ∨ (1040 ≤ a0 ∧ a0 ≤ 1103)) by omega)]
    exact shardref1_letter.c8 a0 (by omega) (by omega) w
  by_cases k9 : a0 ≤ 255
  · rw [decide_eq_true (show (65 ≤ a0 ∧ a0 ≤ 90) ∨ (97 ≤ a0 ∧ a0 ≤ 122) ∨ (192 ≤ a0 ∧ a0 ≤ 214) ∨ (216 ≤ a0 ∧ a0 ≤ 246) ∨ (248 ≤ a0 ∧ a0 ≤ 255) ∨ (913 ≤ a0 ∧ a0 ≤ 929) ∨ (931 ≤ a0 ∧ a0 ≤ 937) ∨ (945 ≤ a0 ∧ a0 ≤ 969) ∨ (1040 ≤ a0 ∧ a0 ≤ 1103) by omega)]
    exact shardref1_letter.c9 a0 (by omega) (by omega) w
  by_cases k10 : a0 ≤ 912
  · rw [decide_eq_false (show ¬ ((65 ≤ a0 ∧ a0 ≤ 90) ∨ (97 ≤ a0 ∧ a0 ≤ 122) ∨ (192 ≤ a0 ∧ a0 ≤ 214) ∨ (216 ≤ a0 ∧ a0 ≤ 246) ∨ (248 ≤ a0 ∧ a0 ≤ 255) ∨ (913 ≤ a0 ∧ a0 ≤ 929) ∨ (931 ≤ a0 ∧ a0 ≤ 937) ∨ (945 ≤ a0 ∧ a0 ≤ 969) ∨ (1040 ≤ a0 ∧ a0 ≤ 1103)) by omega)]
    exact shardref1_letter.c10 a0 (by omega) (by omega) w
  by_cases k11 : a0 ≤ 929
  · rw [decide_eq_true (show (65 ≤ a0 ∧ a0 ≤ 90) ∨ (97 ≤ a0 ∧ a0 ≤ 122) ∨ (192 ≤ a0 ∧ a0 ≤ 214) ∨ (216 ≤ a0 ∧ a0 ≤ 246) ∨ (248 ≤ a0 ∧ a0 ≤ 255) ∨ (913 ≤ a0 ∧ a0 ≤ 929) ∨ (931 ≤ a0 ∧ a0 ≤ 937) ∨ (945 ≤ a0 ∧ a0 ≤ 969) ∨ (1040 ≤ a0 ∧ a0 ≤ 1103) by omega)]
    exact shardref1_letter.c11 a0 (by omega) (by omega) w
  by_cases k12 : a0 ≤ 930
  · rw [decide_eq_false (show ¬ ((65 ≤ a0 ∧ a0 ≤ 90) ∨ (97 ≤ a0 ∧ a0 ≤ 122) ∨ (192 ≤ a0 ∧ a0 ≤ 214) ∨ (216 ≤ a0 ∧ a0 ≤ 246) ∨ (248 ≤ a0 ∧ a0 ≤ 255) ∨ (913 ≤ a0 ∧ a0 ≤ 929) ∨ (931 ≤ a0 ∧ a0 ≤ 937) ∨ (945 ≤ a0 ∧ a0 ≤ 969) ∨ (1040 ≤ a0 ∧ a0 ≤ 1103)) by omega)]
    exact shardref1_letter.c12 a0 (by omega) (by omega) w
  by_cases k13 : a0 ≤ 937
  · rw [decide_eq_true (show (65 ≤ a0 ∧ a0 ≤ 90) ∨ (97 ≤ a0 ∧ a0 ≤ 122) ∨ (192 ≤ a0 ∧ a0 ≤ 214) ∨ (216 ≤ a0 ∧ a0 ≤ 246) ∨ (248 ≤ a0 ∧ a0 ≤ 255) ∨ (913 ≤ a0 ∧ a0 ≤ 929) ∨ (931 ≤ a0 ∧ a0 ≤ 937) ∨ (945 ≤ a0 ∧ a0 ≤ 969) ∨ (1040 ≤ a0 ∧ a0 ≤ 1103) by omega)]
    exact shardref1_letter.c13 a0 (by omega) (by omega) w
  by_cases k14 : a0 ≤ 944
  · rw [decide_eq_false (show ¬ ((65 ≤ a0 ∧ a0 ≤ 90) ∨ (97 ≤ a0 ∧ a0 ≤ 122) ∨ (192 ≤ a0 ∧ a0 ≤ 214) ∨ (216 ≤ a0 ∧ a0 ≤ 246) ∨ (248 ≤ a0 ∧ a0 ≤ 255) ∨ (913 ≤ a0 ∧ a0 ≤ 929) ∨ (931 ≤ a0 ∧ a0 ≤ 937) ∨ (945 ≤ a0 ∧ a0 ≤ 969) ∨ (1040 ≤ a0 ∧ a0 ≤ 1103)) by omega)]
    exact shardref1_letter.c14 a0 (by omega) (by omega) w
  by_cases k15 : a0 ≤ 969
  · rw [decide_eq_true (show (65 ≤ a0 ∧ a0 ≤ 90) ∨ (97 ≤ a0 ∧ a0 ≤ 122) ∨ (192 ≤ a0 ∧ a0 ≤ 214) ∨ (216 ≤ a0 ∧ a0 ≤ 246) ∨ (248 ≤ a0 ∧ a0 ≤ 255) ∨ (913 ≤ a0 ∧ a0 ≤ 929) ∨ (931 ≤ a0 ∧ a0 ≤ 937) ∨ (945 ≤ a0 ∧ a0 ≤ 969) ∨ (1040 ≤ a0 ∧ a0 ≤ 1103) by omega)]
    exact shardref1_letter.c15 a0 (by omega) (by omega) w
  by_cases k16 : a0 ≤ 1039
  · rw [decide_eq_false (show ¬ ((65 ≤ a0 ∧ a0 ≤ 90) ∨ (97 ≤ a0 ∧ a0 ≤ 122) ∨ (192 ≤ a0 ∧ a0 ≤ 214) ∨ (216 ≤ a0 ∧ a0 ≤ 246) ∨ (248 ≤ a0 ∧ a0 ≤ 255) ∨ (913 ≤ a0 ∧ a0 ≤ 929) ∨ (931 ≤ a0 ∧ a0 ≤ 937) ∨ (945 ≤ a0 ∧ a0 ≤ 969) ∨ (1040 ≤ a0 ∧ a0 ≤ 1103)) by omega)]
    exact shardref1_letter.c16 a0 (by omega) (by omega) w
  by_cases k17 : a0 ≤ 1103
  · rw [decide_eq_true (show (65 ≤ a0 ∧ a0 ≤ 90) ∨ (97 ≤ a0 ∧ a0 ≤ 122) ∨ (192 ≤ a0 ∧ a0 ≤ 214) ∨ (216 ≤ a0 ∧ a0 ≤ 246) ∨ (248 ≤ a0 ∧ a0 ≤ 255) ∨ (913 ≤ a0 ∧ a0 ≤ 929) ∨ (931 ≤ a0 ∧ a0 ≤ 937) ∨ (945 ≤ a0 ∧ a0 ≤ 969) ∨ (1040 ≤ a0 ∧ a0 ≤ 1103) by omega)]
    exact shardref1_letter.c17 a0 (by omega) (by omega) w
  rw [decide_eq_false (show ¬ ((65 ≤ a0 ∧ a0 ≤ 90) ∨ (97 ≤ a0 ∧ a0 ≤ 122) ∨ (192 ≤ a0 ∧ a0 ≤ 214) ∨ (216 ≤ a0 ∧ a0 ≤ 246) ∨ (248 ≤ a0 ∧ a0 ≤ 255) ∨ (913 ≤ a0 ∧ a0 ≤ 929) ∨ (931 ≤ a0 ∧ a0 ≤ 937) ∨ (945 ≤ a0 ∧ a0 ≤ 969) ∨ (1040 ≤ a0 ∧ a0 ≤ 1103)) by omega)]
  exact shardref1_letter.c18 a0 (by omega) w

end Go.Proofs.YtplhcnlpfoiieaaDoor.P
