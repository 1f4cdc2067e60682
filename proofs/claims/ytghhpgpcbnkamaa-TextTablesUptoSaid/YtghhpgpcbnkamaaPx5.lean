-- Written by printx.py (this work's driver over the kit's print) out of the translation; Lean checks it.
import Derived.Test.YtghhpgpcbnkamaaPx0
namespace Go.Proofs.Ytghhpgpcbnkamaa.P
open Go.RowKit Go.Proofs.YtghhpgpcbnkamaaW.PrintWords Go.Proofs.YtghhpgpcbnkamaaW.PrintLast Go.Proofs.YtghhpgpcbnkamaaW.PrintMore
attribute [local go_sem] max2_int min2_int max_two min_two max_three min_three max_four min_four   -- for this text's walks alone
set_option linter.unusedVariables false
set_option linter.unusedSimpArgs false

/-! ### shardref1_mark: function 43 -/
-- GIVEN

def shardref1_mark.f (a0 : Int) : Option (Bool) := some (decide ((768 ≤ a0 ∧ a0 ≤ 879) ∨ (1155 ≤ a0 ∧ a0 ≤ 1161) ∨ (1425 ≤ a0 ∧ a0 ≤ 1469) ∨ (1611 ≤ a0 ∧ a0 ≤ 1631) ∨ (6832 ≤ a0 ∧ a0 ≤ 6911) ∨ (7616 ≤ a0 ∧ a0 ≤ 7679) ∨ (8400 ≤ a0 ∧ a0 ≤ 8447) ∨ (65024 ≤ a0 ∧ a0 ≤ 65039) ∨ (65056 ≤ a0 ∧ a0 ≤ 65071)))
set_option maxHeartbeats 4000000 in
set_option maxRecDepth 100000 in
theorem shardref1_mark.c0 (a0 : Int) (h1 : a0 ≤ 767) (w : World) : Calls Try.prog 43 #[.int .i64 a0] w fun e w' => e = .returned (.bool false) ∧ Drawn0 w w' := by
  go_enter Try.func43, Try.ntmps43
  go_wp2
  go_ret
  refine ⟨?_, Drawn0.refl _⟩
  first | rfl | (show Ending.returned (.bool _) = .returned (.bool _); congr 2; first | (simp; done) | (simp; omega))
set_option maxHeartbeats 4000000 in
set_option maxRecDepth 100000 in
theorem shardref1_mark.c1 (a0 : Int) (h0 : 768 ≤ a0) (h1 : a0 ≤ 879) (w : World) : Calls Try.prog 43 #[.int .i64 a0] w fun e w' => e = .returned (.bool true) ∧ Drawn0 w w' := by
  go_enter Try.func43, Try.ntmps43
  go_wp2
  go_ret
  refine ⟨?_, Drawn0.refl _⟩
  first | rfl | (show Ending.returned (.bool _) = .returned (.bool _); congr 2; first | (simp; done) | (simp; omega))
set_option maxHeartbeats 4000000 in
set_option maxRecDepth 100000 in
theorem shardref1_mark.c2 (a0 : Int) (h0 : 880 ≤ a0) (h1 : a0 ≤ 1154) (w : World) : Calls Try.prog 43 #[.int .i64 a0] w fun e w' => e = .returned (.bool false) ∧ Drawn0 w w' := by
  go_enter Try.func43, Try.ntmps43
  go_wp2
  go_ret
  refine ⟨?_, Drawn0.refl _⟩
  first | rfl | (show Ending.returned (.bool _) = .returned (.bool _); congr 2; first | (simp; done) | (simp; omega))
set_option maxHeartbeats 4000000 in
set_option maxRecDepth 100000 in
theorem shardref1_mark.c3 (a0 : Int) (h0 : 1155 ≤ a0) (h1 : a0 ≤ 1161) (w : World) : Calls Try.prog 43 #[.int .i64 a0] w fun e w' => e = .returned (.bool true) ∧ Drawn0 w w' := by
  go_enter Try.func43, Try.ntmps43
  go_wp2
  go_ret
  refine ⟨?_, Drawn0.refl _⟩
  first | rfl | (show Ending.returned (.bool _) = .returned (.bool _); congr 2; first | (simp; done) | (simp; omega))
set_option maxHeartbeats 4000000 in
set_option maxRecDepth 100000 in
theorem shardref1_mark.c4 (a0 : Int) (h0 : 1162 ≤ a0) (h1 : a0 ≤ 1424) (w : World) : Calls Try.prog 43 #[.int .i64 a0] w fun e w' => e = .returned (.bool false) ∧ Drawn0 w w' := by
  go_enter Try.func43, Try.ntmps43
  go_wp2
  go_ret
  refine ⟨?_, Drawn0.refl _⟩
  first | rfl | (show Ending.returned (.bool _) = .returned (.bool _); congr 2; first | (simp; done) | (simp; omega))
set_option maxHeartbeats 4000000 in
set_option maxRecDepth 100000 in
theorem shardref1_mark.c5 (a0 : Int) (h0 : 1425 ≤ a0) (h1 : a0 ≤ 1469) (w : World) : Calls Try.prog 43 #[.int .i64 a0] w fun e w' => e = .returned (.bool true) ∧ Drawn0 w w' := by
  go_enter Try.func43, Try.ntmps43
  go_wp2
  go_ret
  refine ⟨?_, Drawn0.refl _⟩
  first | rfl | (show Ending.returned (.bool _) = .returned (.bool _); congr 2; first | (simp; done) | (simp; omega))
set_option maxHeartbeats 4000000 in
set_option maxRecDepth 100000 in
theorem shardref1_mark.c6 (a0 : Int) (h0 : 1470 ≤ a0) (h1 : a0 ≤ 1610) (w : World) : Calls Try.prog 43 #[.int .i64 a0] w fun e w' => e = .returned (.bool false) ∧ Drawn0 w w' := by
  go_enter Try.func43, Try.ntmps43
  go_wp2
  go_ret
  refine ⟨?_, Drawn0.refl _⟩
  first | rfl | (show Ending.returned (.bool _) = .returned (.bool _); congr 2; first | (simp; done) | (simp; omega))
set_option maxHeartbeats 4000000 in
set_option maxRecDepth 100000 in
theorem shardref1_mark.c7 (a0 : Int) (h0 : 1611 ≤ a0) (h1 : a0 ≤ 1631) (w : World) : Calls Try.prog 43 #[.int .i64 a0] w fun e w' => e = .returned (.bool true) ∧ Drawn0 w w' := by
  go_enter Try.func43, Try.ntmps43
  go_wp2
  go_ret
  refine ⟨?_, Drawn0.refl _⟩
  first | rfl | (show Ending.returned (.bool _) = .returned (.bool _); congr 2; first | (simp; done) | (simp; omega))
set_option maxHeartbeats 4000000 in
set_option maxRecDepth 100000 in
theorem shardref1_mark.c8 (a0 : Int) (h0 : 1632 ≤ a0) (h1 : a0 ≤ 6831) (w : World) : Calls Try.prog 43 #[.int .i64 a0] w fun e w' => e = .returned (.bool false) ∧ Drawn0 w w' := by
  go_enter Try.func43, Try.ntmps43
  go_wp2
  go_ret
  refine ⟨?_, Drawn0.refl _⟩
  first | rfl | (show Ending.returned (.bool _) = .returned (.bool _); congr 2; first | (simp; done) | (simp; omega))
set_option maxHeartbeats 4000000 in
set_option maxRecDepth 100000 in
theorem shardref1_mark.c9 (a0 : Int) (h0 : 6832 ≤ a0) (h1 : a0 ≤ 6911) (w : World) : Calls Try.prog 43 #[.int .i64 a0] w fun e w' => e = .returned (.bool true) ∧ Drawn0 w w' := by
  go_enter Try.func43, Try.ntmps43
  go_wp2
  go_ret
  refine ⟨?_, Drawn0.refl _⟩
  first | rfl | (show Ending.returned (.bool _) = .returned (.bool _); congr 2; first | (simp; done) | (simp; omega))
set_option maxHeartbeats 4000000 in
set_option maxRecDepth 100000 in
theorem shardref1_mark.c10 (a0 : Int) (h0 : 6912 ≤ a0) (h1 : a0 ≤ 7615) (w : World) : Calls Try.prog 43 #[.int .i64 a0] w fun e w' => e = .returned (.bool false) ∧ Drawn0 w w' := by
  go_enter Try.func43, Try.ntmps43
  go_wp2
  go_ret
  refine ⟨?_, Drawn0.refl _⟩
  first | rfl | (show Ending.returned (.bool _) = .returned (.bool _); congr 2; first | (simp; done) | (simp; omega))
set_option maxHeartbeats 4000000 in
set_option maxRecDepth 100000 in
theorem shardref1_mark.c11 (a0 : Int) (h0 : 7616 ≤ a0) (h1 : a0 ≤ 7679) (w : World) : Calls Try.prog 43 #[.int .i64 a0] w fun e w' => e = .returned (.bool true) ∧ Drawn0 w w' := by
  go_enter Try.func43, Try.ntmps43
  go_wp2
  go_ret
  refine ⟨?_, Drawn0.refl _⟩
  first | rfl | (show Ending.returned (.bool _) = .returned (.bool _); congr 2; first | (simp; done) | (simp; omega))
set_option maxHeartbeats 4000000 in
set_option maxRecDepth 100000 in
theorem shardref1_mark.c12 (a0 : Int) (h0 : 7680 ≤ a0) (h1 : a0 ≤ 8399) (w : World) : Calls Try.prog 43 #[.int .i64 a0] w fun e w' => e = .returned (.bool false) ∧ Drawn0 w w' := by
  go_enter Try.func43, Try.ntmps43
  go_wp2
  go_ret
  refine ⟨?_, Drawn0.refl _⟩
  first | rfl | (show Ending.returned (.bool _) = .returned (.bool _); congr 2; first | (simp; done) | (simp; omega))
set_option maxHeartbeats 4000000 in
set_option maxRecDepth 100000 in
theorem shardref1_mark.c13 (a0 : Int) (h0 : 8400 ≤ a0) (h1 : a0 ≤ 8447) (w : World) : Calls Try.prog 43 #[.int .i64 a0] w fun e w' => e = .returned (.bool true) ∧ Drawn0 w w' := by
  go_enter Try.func43, Try.ntmps43
  go_wp2
  go_ret
  refine ⟨?_, Drawn0.refl _⟩
  first | rfl | (show Ending.returned (.bool _) = .returned (.bool _); congr 2; first | (simp; done) | (simp; omega))
set_option maxHeartbeats 4000000 in
set_option maxRecDepth 100000 in
theorem shardref1_mark.c14 (a0 : Int) (h0 : 8448 ≤ a0) (h1 : a0 ≤ 65023) (w : World) : Calls Try.prog 43 #[.int .i64 a0] w fun e w' => e = .returned (.bool false) ∧ Drawn0 w w' := by
  go_enter Try.func43, Try.ntmps43
  go_wp2
  go_ret
  refine ⟨?_, Drawn0.refl _⟩
  first | rfl | (show Ending.returned (.bool _) = .returned (.bool _); congr 2; first | (simp; done) | (simp; omega))
set_option maxHeartbeats 4000000 in
set_option maxRecDepth 100000 in
theorem shardref1_mark.c15 (a0 : Int) (h0 : 65024 ≤ a0) (h1 : a0 ≤ 65039) (w : World) : Calls Try.prog 43 #[.int .i64 a0] w fun e w' => e = .returned (.bool true) ∧ Drawn0 w w' := by
  go_enter Try.func43, Try.ntmps43
  go_wp2
  go_ret
  refine ⟨?_, Drawn0.refl _⟩
  first | rfl | (show Ending.returned (.bool _) = .returned (.bool _); congr 2; first | (simp; done) | (simp; omega))
set_option maxHeartbeats 4000000 in
set_option maxRecDepth 100000 in
theorem shardref1_mark.c16 (a0 : Int) (h0 : 65040 ≤ a0) (h1 : a0 ≤ 65055) (w : World) : Calls Try.prog 43 #[.int .i64 a0] w fun e w' => e = .returned (.bool false) ∧ Drawn0 w w' := by
  go_enter Try.func43, Try.ntmps43
  go_wp2
  go_ret
  refine ⟨?_, Drawn0.refl _⟩
  first | rfl | (show Ending.returned (.bool _) = .returned (.bool _); congr 2; first | (simp; done) | (simp; omega))
set_option maxHeartbeats 4000000 in
set_option maxRecDepth 100000 in
theorem shardref1_mark.c17 (a0 : Int) (h0 : 65056 ≤ a0) (h1 : a0 ≤ 65071) (w : World) : Calls Try.prog 43 #[.int .i64 a0] w fun e w' => e = .returned (.bool true) ∧ Drawn0 w w' := by
  go_enter Try.func43, Try.ntmps43
  go_wp2
  go_ret
  refine ⟨?_, Drawn0.refl _⟩
  first | rfl | (show Ending.returned (.bool _) = .returned (.bool _); congr 2; first | (simp; done) | (simp; omega))
set_option maxHeartbeats 4000000 in
set_option maxRecDepth 100000 in
theorem shardref1_mark.c18 (a0 : Int) (h0 : 65072 ≤ a0) (w : World) : Calls Try.prog 43 #[.int .i64 a0] w fun e w' => e = .returned (.bool false) ∧ Drawn0 w w' := by
  go_enter Try.func43, Try.ntmps43
  go_wp2
  go_ret
  refine ⟨?_, Drawn0.refl _⟩
  first | rfl | (show Ending.returned (.bool _) = .returned (.bool _); congr 2; first | (simp; done) | (simp; omega))
theorem shardref1_mark.calls (a0 : Int) (r : Bool) (w : World) (h : shardref1_mark.f a0 = some r) : Calls Try.prog 43 #[.int .i64 a0] w fun e w' => e = .returned (.bool r) ∧ Drawn0 w w' := by
  obtain rfl := Option.some.inj h
  by_cases k0 : a0 ≤ 767
  · rw [decide_eq_false (show ¬ ((768 ≤ a0 ∧ a0 ≤ 879) ∨ (1155 ≤ a0 ∧ a0 ≤ 1161) ∨ (1425 ≤ a0 ∧ a0 ≤ 1469) ∨ (1611 ≤ a0 ∧ a0 ≤ 1631) ∨ (6832 ≤ a0 ∧ a0 ≤ 6911) ∨ (7616 ≤ a0 ∧ a0 ≤ 7679) ∨ (8400 ≤ a0 ∧ a0 ≤ 8447) ∨ (65024 ≤ a0 ∧ a0 ≤ 65039) ∨ (65056 ≤ a0 ∧ a0 ≤ 65071)) by omega)]
    exact shardref1_mark.c0 a0 (by omega) w
  by_cases k1 : a0 ≤ 879
  · rw [decide_eq_true (show (768 ≤ a0 ∧ a0 ≤ 879) ∨ (1155 ≤ a0 ∧ a0 ≤ 1161) ∨ (1425 ≤ a0 ∧ a0 ≤ 1469) ∨ (1611 ≤ a0 ∧ a0 ≤ 1631) ∨ (6832 ≤ a0 ∧ a0 ≤ 6911) ∨ (7616 ≤ a0 ∧ a0 ≤ 7679) ∨ (8400 ≤ a0 ∧ a0 ≤ 8447) ∨ (65024 ≤ a0 ∧ a0 ≤ 65039) ∨ (65056 ≤ a0 ∧ a0 ≤ 65071) by omega)]
    exact shardref1_mark.c1 a0 (by omega) (by omega) w
  by_cases k2 : a0 ≤ 1154
  · rw [decide_eq_false (show ¬ ((768 ≤ a0 ∧ a0 ≤ 879) ∨ (1155 ≤ a0 ∧ a0 ≤ 1161) ∨ (1425 ≤ a0 ∧ a0 ≤ 1469) ∨ (1611 ≤ a0 ∧ a0 ≤ 1631) ∨ (6832 ≤ a0 ∧ a0 ≤ 6911) ∨ (7616 ≤ a0 ∧ a0 ≤ 7679) ∨ (8400 ≤ a0 ∧ a0 ≤ 8447) ∨ (65024 ≤ a0 ∧ a0 ≤ 65039) ∨ (65056 ≤ a0 ∧ a0 ≤ 65071)) by omega)]
    exact shardref1_mark.c2 a0 (by omega) (by omega) w
  by_cases k3 : a0 ≤ 1161
  · rw [decide_eq_true (show (768 ≤ a0 ∧ a0 ≤ 879) ∨ (1155 ≤ a0 ∧ a0 ≤ 1161) ∨ (1425 ≤ a0 ∧ a0 ≤ 1469) ∨ (1611 ≤ a0 ∧ a0 ≤ 1631) ∨ (6832 ≤ a0 ∧ a0 ≤ 6911) ∨ (7616 ≤ a0 ∧ a0 ≤ 7679) ∨ (8400 ≤ a0 ∧ a0 ≤ 8447) ∨ (65024 ≤ a0 ∧ a0 ≤ 65039) ∨ (65056 ≤ a0 ∧ a0 ≤ 65071) by omega)]
    exact shardref1_mark.c3 a0 (by omega) (by omega) w
  by_cases k4 : a0 ≤ 1424
  · rw [decide_eq_false (show ¬ ((768 ≤ a0 ∧ a0 ≤ 879) ∨ (1155 ≤ a0 ∧ a0 ≤ 1161) ∨ (1425 ≤ a0 ∧ a0 ≤ 1469) ∨ (1611 ≤ a0 ∧ a0 ≤ 1631) ∨ (6832 ≤ a0 ∧ a0 ≤ 6911) ∨ (7616 ≤ a0 ∧ a0 ≤ 7679) ∨ (8400 ≤ a0 ∧ a0 ≤ 8447) ∨ (65024 ≤ a0 ∧ a0 ≤ 65039) ∨ (65056 ≤ a0 ∧ a0 ≤ 65071)) by omega)]
    exact shardref1_mark.c4 a0 (by omega) (by omega) w
  by_cases k5 : a0 ≤ 1469
  · rw [decide_eq_true (show (768 ≤ a0 ∧ a0 ≤ 879) ∨ (1155 ≤ a0 ∧ a0 ≤ 1161) ∨ (1425 ≤ a0 ∧ a0 ≤ 1469) ∨ (1611 ≤ a0 ∧ a0 ≤ 1631) ∨ (6832 ≤ a0 ∧ a0 ≤ 6911) ∨ (7616 ≤ a0 ∧ a0 ≤ 7679) ∨ (8400 ≤ a0 ∧ a0 ≤ 8447) ∨ (65024 ≤ a0 ∧ a0 ≤ 65039) ∨ (65056 ≤ a0 ∧ a0 ≤ 65071) by omega)]
    exact shardref1_mark.c5 a0 (by omega) (by omega) w
  by_cases k6 : a0 ≤ 1610
  · rw [decide_eq_false (show ¬ ((768 ≤ a0 ∧ a0 ≤ 879) ∨ (1155 ≤ a0 ∧ a0 ≤ 1161) ∨ (1425 ≤ a0 ∧ a0 ≤ 1469) ∨ (1611 ≤ a0 ∧ a0 ≤ 1631) ∨ (6832 ≤ a0 ∧ a0 ≤ 6911) ∨ (7616 ≤ a0 ∧ a0 ≤ 7679) ∨ (8400 ≤ a0 ∧ a0 ≤ 8447) ∨ (65024 ≤ a0 ∧ a0 ≤ 65039) ∨ (65056 ≤ a0 ∧ a0 ≤ 65071)) by omega)]
    exact shardref1_mark.c6 a0 (by omega) (by omega) w
  by_cases k7 : a0 ≤ 1631
  · rw [decide_eq_true (show (768 ≤ a0 ∧ a0 ≤ 879) ∨ (1155 ≤ a0 ∧ a0 ≤ 1161) ∨ (1425 ≤ a0 ∧ a0 ≤ 1469) ∨ (1611 ≤ a0 ∧ a0 ≤ 1631) ∨ (6832 ≤ a0 ∧ a0 ≤ 6911) ∨ (7616 ≤ a0 ∧ a0 ≤ 7679) ∨ (8400 ≤ a0 ∧ a0 ≤ 8447) ∨ (65024 ≤ a0 ∧ a0 ≤ 65039) ∨ (65056 ≤ a0 ∧ a0 ≤ 65071) by omega)]
    exact shardref1_mark.c7 a0 (by omega) (by omega) w
  by_cases k8 : a0 ≤ 6831
  · rw [decide_eq_false (show ¬ ((768 ≤ a0 ∧ a0 ≤ 879) ∨ (1155 ≤ a0 ∧ a0 ≤ 1161) ∨ (1425 ≤ a0 ∧ a0 ≤ 1469) ∨ (1611 ≤ a0 ∧ a0 ≤ 1631) ∨ (6832 ≤ a0 ∧ a0 ≤ 6911) ∨ (7616 ≤ a0 ∧ a0 ≤ 7679) ∨ (8400 ≤ a0 ∧ a0 ≤ 8447) ∨ (65024 ≤ a0 ∧ a0 ≤ 65039) ∨ (65056 ≤ a0 ∧ a0 ≤ 65071)) by omega)]
    exact shardref1_mark.c8 a0 (by omega) (by omega) w
  by_cases k9 : a0 ≤ 6911
  · rw [decide_eq_true (show (768 ≤ a0 ∧ a0 ≤ 879) ∨ (1155 ≤ a0 ∧ a0 ≤ 1161) ∨ (1425 ≤ a0 ∧ a0 ≤ 1469) ∨ (1611 ≤ a0 ∧ a0 ≤ 1631) ∨ (6832 ≤ a0 ∧ a0 ≤ 6911) ∨ (7616 ≤ a0 ∧ a0 ≤ 7679) ∨ (8400 ≤ a0 ∧ a0 ≤ 8447) ∨ (65024 ≤ a0 ∧ a0 ≤ 65039) ∨ (65056 ≤ a0 ∧ a0 ≤ 65071) by omega)]
    exact shardref1_mark.c9 a0 (by omega) (by omega) w
  by_cases k10 : a0 ≤ 7615
  · rw [decide_eq_false (show ¬ ((768 ≤ a0 ∧ a0 ≤ 879) ∨ (1155 ≤ a0 ∧ a0 ≤ 1161) ∨ (1425 ≤ a0 ∧ a0 ≤ 1469) ∨ (1611 ≤ a0 ∧ a0 ≤ 1631) ∨ (6832 ≤ a0 ∧ a0 ≤ 6911) ∨ (7616 ≤ a0 ∧ a0 ≤ 7679) ∨ (8400 ≤ a0 ∧ a0 ≤ 8447) ∨ (65024 ≤ a0 ∧ a0 ≤ 65039) ∨ (65056 ≤ a0 ∧ a0 ≤ 65071)) by omega)]
    exact shardref1_mark.c10 a0 (by omega) (by omega) w
  by_cases k11 : a0 ≤ 7679
  · rw [decide_eq_true (show (768 ≤ a0 ∧ a0 ≤ 879) ∨ (1155 ≤ a0 ∧ a0 ≤ 1161) ∨ (1425 ≤ a0 ∧ a0 ≤ 1469) ∨ (1611 ≤ a0 ∧ a0 ≤ 1631) ∨ (6832 ≤ a0 ∧ a0 ≤ 6911) ∨ (7616 ≤ a0 ∧ a0 ≤ 7679) ∨ (8400 ≤ a0 ∧ a0 ≤ 8447) ∨ (65024 ≤ a0 ∧ a0 ≤ 65039) ∨ (65056 ≤ a0 ∧ a0 ≤ 65071) by omega)]
    exact shardref1_mark.c11 a0 (by omega) (by omega) w
  by_cases k12 : a0 ≤ 8399
  · rw [decide_eq_false (show ¬ ((768 ≤ a0 ∧ a0 ≤ 879) ∨ (1155 ≤ a0 ∧ a0 ≤ 1161) ∨ (1425 ≤ a0 ∧ a0 ≤ 1469) ∨ (1611 ≤ a0 ∧ a0 ≤ 1631) ∨ (6832 ≤ a0 ∧ a0 ≤ 6911) ∨ (7616 ≤ a0 ∧ a0 ≤ 7679) ∨ (8400 ≤ a0 ∧ a0 ≤ 8447) ∨ (65024 ≤ a0 ∧ a0 ≤ 65039) ∨ (65056 ≤ a0 ∧ a0 ≤ 65071)) by omega)]
    exact shardref1_mark.c12 a0 (by omega) (by omega) w
  by_cases k13 : a0 ≤ 8447
  · rw [decide_eq_true (show (768 ≤ a0 ∧ a0 ≤ 879) ∨ (1155 ≤ a0 ∧ a0 ≤ 1161) ∨ (1425 ≤ a0 ∧ a0 ≤ 1469) ∨ (1611 ≤ a0 ∧ a0 ≤ 1631) ∨ (6832 ≤ a0 ∧ a0 ≤ 6911) ∨ (7616 ≤ a0 ∧ a0 ≤ 7679) ∨ (8400 ≤ a0 ∧ a0 ≤ 8447) ∨ (65024 ≤ a0 ∧ a0 ≤ 65039) ∨ (65056 ≤ a0 ∧ a0 ≤ 65071) by omega)]
    exact shardref1_mark.c13 a0 (by omega) (by omega) w
  by_cases k14 : a0 ≤ 65023
  · rw [decide_eq_false (show ¬ ((768 ≤ a0 ∧ a0 ≤ 879) ∨ (1155 ≤ a0 ∧ a0 ≤ 1161) ∨ (1425 ≤ a0 ∧ a0 ≤ 1469) ∨ (1611 ≤ a0 ∧ a0 ≤ 1631) ∨ (6832 ≤ a0 ∧ a0 ≤ 6911) ∨ (7616 ≤ a0 ∧ a0 ≤ 7679) ∨ (8400 ≤ a0 ∧ a0 ≤ 8447) ∨ (65024 ≤ a0 ∧ a0 ≤ 65039) ∨ (65056 ≤ a0 ∧ a0 ≤ 65071)) by omega)]
    exact shardref1_mark.c14 a0 (by omega) (by omega) w
  by_cases k15 : a0 ≤ 65039
  · rw [decide_eq_true (show (768 ≤ a0 ∧ a0 ≤ 879) ∨ (1155 ≤ a0 ∧ a0 ≤ 1161) ∨ (1425 ≤ a0 ∧ a0 ≤ 1469) ∨ (1611 ≤ a0 ∧ a0 ≤ 1631) ∨ (6832 ≤ a0 ∧ a0 ≤ 6911) ∨ (7616 ≤ a0 ∧ a0 ≤ 7679) ∨ (8400 ≤ a0 ∧ a0 ≤ 8447) ∨ (65024 ≤ a0 ∧ a0 ≤ 65039) ∨ (65056 ≤ a0 ∧ a0 ≤ 65071) by omega)]
    exact shardref1_mark.c15 a0 (by omega) (by omega) w
  by_cases k16 : a0 ≤ 65055
  · rw [decide_eq_false (show ¬ ((768 ≤ a0 ∧ a0 ≤ 879) ∨ (1155 ≤ a0 ∧ a0 ≤ 1161) ∨ (1425 ≤ a0 ∧ a0 ≤ 1469) ∨ (1611 ≤ a0 ∧ a0 ≤ 1631) ∨ (6832 ≤ a0 ∧ a0 ≤ 6911) ∨ (7616 ≤ a0 ∧ a0 ≤ 7679) ∨ (8400 ≤ a0 ∧ a0 ≤ 8447) ∨ (65024 ≤ a0 ∧ a0 ≤ 65039) ∨ (65056 ≤ a0 ∧ a0 ≤ 65071)) by omega)]
    exact shardref1_mark.c16 a0 (by omega) (by omega) w
  by_cases k17 : a0 ≤ 65071
  · rw [decide_eq_true (show (768 ≤ a0 ∧ a0 ≤ 879) ∨ (1155 ≤ a0 ∧ a0 ≤ 1161) ∨ (1425 ≤ a0 ∧ a0 ≤ 1469) ∨ (1611 ≤ a0 ∧ a0 ≤ 1631) ∨ (6832 ≤ a0 ∧ a0 ≤ 6911) ∨ (7616 ≤ a0 ∧ a0 ≤ 7679) ∨ (8400 ≤ a0 ∧ a0 ≤ 8447) ∨ (65024 ≤ a0 ∧ a0 ≤ 65039) ∨ (65056 ≤ a0 ∧ a0 ≤ 65071) by omega)]
    exact shardref1_mark.c17 a0 (by omega) (by omega) w
  rw [decide_eq_false (show ¬ ((768 ≤ a0 ∧ a0 ≤ 879) ∨ (1155 ≤ a0 ∧ a0 ≤ 1161) ∨ (1425 ≤ a0 ∧ a0 ≤ 1469) ∨ (1611 ≤ a0 ∧ a0 ≤ 1631) ∨ (6832 ≤ a0 ∧ a0 ≤ 6911) ∨ (7616 ≤ a0 ∧ a0 ≤ 7679) ∨ (8400 ≤ a0 ∧ a0 ≤ 8447) ∨ (65024 ≤ a0 ∧ a0 ≤ 65039) ∨ (65056 ≤ a0 ∧ a0 ≤ 65071)) by omega)]
  exact shardref1_mark.c18 a0 (by omega) w

end Go.Proofs.Ytghhpgpcbnkamaa.P
