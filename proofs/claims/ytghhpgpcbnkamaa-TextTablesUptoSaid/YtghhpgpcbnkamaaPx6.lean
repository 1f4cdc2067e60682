-- Written by printx.py (this work's driver over the kit's print) out of the translation; Lean checks it.
import Derived.Test.YtghhpgpcbnkamaaPx0
namespace Go.Proofs.Ytghhpgpcbnkamaa.P
open Go.RowKit Go.Proofs.YtghhpgpcbnkamaaW.PrintWords Go.Proofs.YtghhpgpcbnkamaaW.PrintLast Go.Proofs.YtghhpgpcbnkamaaW.PrintMore
attribute [local go_sem] max2_int min2_int max_two min_two max_three min_three max_four min_four   -- for this text's walks alone
set_option linter.unusedVariables false
set_option linter.unusedSimpArgs false

/-! ### shardref1_broad: function 44 -/
-- GIVEN

def shardref1_broad.f (a0 : Int) : Option (Bool) := some (decide ((4352 ≤ a0 ∧ a0 ≤ 4447) ∨ (11904 ≤ a0 ∧ a0 ≤ 12350) ∨ (12353 ≤ a0 ∧ a0 ≤ 19903) ∨ (19968 ≤ a0 ∧ a0 ≤ 42191) ∨ (44032 ≤ a0 ∧ a0 ≤ 55203) ∨ (63744 ≤ a0 ∧ a0 ≤ 64255) ∨ (65072 ≤ a0 ∧ a0 ≤ 65135) ∨ (65281 ≤ a0 ∧ a0 ≤ 65376) ∨ (65504 ≤ a0 ∧ a0 ≤ 65510) ∨ (127744 ≤ a0 ∧ a0 ≤ 128591) ∨ (129280 ≤ a0 ∧ a0 ≤ 129535) ∨ (131072 ≤ a0 ∧ a0 ≤ 262141)))
set_option maxHeartbeats 4000000 in
set_option maxRecDepth 100000 in
theorem shardref1_broad.c0 (a0 : Int) (h1 : a0 ≤ 4351) (w : World) : Calls Try.prog 44 #[.int .i64 a0] w fun e w' => e = .returned (.bool false) ∧ Drawn0 w w' := by
  go_enter Try.func44, Try.ntmps44
  go_wp2
  go_ret
  refine ⟨?_, Drawn0.refl _⟩
  first | rfl | (show Ending.returned (.bool _) = .returned (.bool _); congr 2; first | (simp; done) | (simp; omega))
set_option maxHeartbeats 4000000 in
set_option maxRecDepth 100000 in
theorem shardref1_broad.c1 (a0 : Int) (h0 : 4352 ≤ a0) (h1 : a0 ≤ 4447) (w : World) : Calls Try.prog 44 #[.int .i64 a0] w fun e w' => e = .returned (.bool true) ∧ Drawn0 w w' := by
  go_enter Try.func44, Try.ntmps44
  go_wp2
  go_ret
  refine ⟨?_, Drawn0.refl _⟩
  first | rfl | (show Ending.returned (.bool _) = .returned (.bool _); congr 2; first | (simp; done) | (simp; omega))
set_option maxHeartbeats 4000000 in
set_option maxRecDepth 100000 in
theorem shardref1_broad.c2 (a0 : Int) (h0 : 4448 ≤ a0) (h1 : a0 ≤ 11903) (w : World) : Calls Try.prog 44 #[.int .i64 a0] w fun e w' => e = .returned (.bool false) ∧ Drawn0 w w' := by
  go_enter Try.func44, Try.ntmps44
  go_wp2
  go_ret
  refine ⟨?_, Drawn0.refl _⟩
  first | rfl | (show Ending.returned (.bool _) = .returned (.bool _); congr 2; first | (simp; done) | (simp; omega))
set_option maxHeartbeats 4000000 in
set_option maxRecDepth 100000 in
theorem shardref1_broad.c3 (a0 : Int) (h0 : 11904 ≤ a0) (h1 : a0 ≤ 12350) (w : World) : Calls Try.prog 44 #[.int .i64 a0] w fun e w' => e = .returned (.bool true) ∧ Drawn0 w w' := by
  go_enter Try.func44, Try.ntmps44
  go_wp2
  go_ret
  refine ⟨?_, Drawn0.refl _⟩
  first | rfl | (show Ending.returned (.bool _) = .returned (.bool _); congr 2; first | (simp; done) | (simp; omega))
set_option maxHeartbeats 4000000 in
set_option maxRecDepth 100000 in
theorem shardref1_broad.c4 (a0 : Int) (h0 : 12351 ≤ a0) (h1 : a0 ≤ 12352) (w : World) : Calls Try.prog 44 #[.int .i64 a0] w fun e w' => e = .returned (.bool false) ∧ Drawn0 w w' := by
  go_enter Try.func44, Try.ntmps44
  go_wp2
  go_ret
  refine ⟨?_, Drawn0.refl _⟩
  first | rfl | (show Ending.returned (.bool _) = .returned (.bool _); congr 2; first | (simp; done) | (simp; omega))
set_option maxHeartbeats 4000000 in
set_option maxRecDepth 100000 in
theorem shardref1_broad.c5 (a0 : Int) (h0 : 12353 ≤ a0) (h1 : a0 ≤ 19903) (w : World) : Calls Try.prog 44 #[.int .i64 a0] w fun e w' => e = .returned (.bool true) ∧ Drawn0 w w' := by
  go_enter Try.func44, Try.ntmps44
  go_wp2
  go_ret
  refine ⟨?_, Drawn0.refl _⟩
  first | rfl | (show Ending.returned (.bool _) = .returned (.bool _); congr 2; first | (simp; done) | (simp; omega))
set_option maxHeartbeats 4000000 in
set_option maxRecDepth 100000 in
theorem shardref1_broad.c6 (a0 : Int) (h0 : 19904 ≤ a0) (h1 : a0 ≤ 19967) (w : World) : Calls Try.prog 44 #[.int .i64 a0] w fun e w' => e = .returned (.bool false) ∧ Drawn0 w w' := by
  go_enter Try.func44, Try.ntmps44
  go_wp2
  go_ret
  refine ⟨?_, Drawn0.refl _⟩
  first | rfl | (show Ending.returned (.bool _) = .returned (.bool _); congr 2; first | (simp; done) | (simp; omega))
set_option maxHeartbeats 4000000 in
set_option maxRecDepth 100000 in
theorem shardref1_broad.c7 (a0 : Int) (h0 : 19968 ≤ a0) (h1 : a0 ≤ 42191) (w : World) : Calls Try.prog 44 #[.int .i64 a0] w fun e w' => e = .returned (.bool true) ∧ Drawn0 w w' := by
  go_enter Try.func44, Try.ntmps44
  go_wp2
  go_ret
  refine ⟨?_, Drawn0.refl _⟩
  first | rfl | (show Ending.returned (.bool _) = .returned (.bool _); congr 2; first | (simp; done) | (simp; omega))
set_option maxHeartbeats 4000000 in
set_option maxRecDepth 100000 in
theorem shardref1_broad.c8 (a0 : Int) (h0 : 42192 ≤ a0) (h1 : a0 ≤ 44031) (w : World) : Calls Try.prog 44 #[.int .i64 a0] w fun e w' => e = .returned (.bool false) ∧ Drawn0 w w' := by
  go_enter Try.func44, Try.ntmps44
  go_wp2
  go_ret
  refine ⟨?_, Drawn0.refl _⟩
  first | rfl | (show Ending.returned (.bool _) = .returned (.bool _); congr 2; first | (simp; done) | (simp; omega))
set_option maxHeartbeats 4000000 in
set_option maxRecDepth 100000 in
theorem shardref1_broad.c9 (a0 : Int) (h0 : 44032 ≤ a0) (h1 : a0 ≤ 55203) (w : World) : Calls Try.prog 44 #[.int .i64 a0] w fun e w' => e = .returned (.bool true) ∧ Drawn0 w w' := by
  go_enter Try.func44, Try.ntmps44
  go_wp2
  go_ret
  refine ⟨?_, Drawn0.refl _⟩
  first | rfl | (show Ending.returned (.bool _) = .returned (.bool _); congr 2; first | (simp; done) | (simp; omega))
set_option maxHeartbeats 4000000 in
set_option maxRecDepth 100000 in
theorem shardref1_broad.c10 (a0 : Int) (h0 : 55204 ≤ a0) (h1 : a0 ≤ 63743) (w : World) : Calls Try.prog 44 #[.int .i64 a0] w fun e w' => e = .returned (.bool false) ∧ Drawn0 w w' := by
  go_enter Try.func44, Try.ntmps44
  go_wp2
  go_ret
  refine ⟨?_, Drawn0.refl _⟩
  first | rfl | (show Ending.returned (.bool _) = .returned (.bool _); congr 2; first | (simp; done) | (simp; omega))
set_option maxHeartbeats 4000000 in
set_option maxRecDepth 100000 in
theorem shardref1_broad.c11 (a0 : Int) (h0 : 63744 ≤ a0) (h1 : a0 ≤ 64255) (w : World) : Calls Try.prog 44 #[.int .i64 a0] w fun e w' => e = .returned (.bool true) ∧ Drawn0 w w' := by
  go_enter Try.func44, Try.ntmps44
  go_wp2
  go_ret
  refine ⟨?_, Drawn0.refl _⟩
  first | rfl | (show Ending.returned (.bool _) = .returned (.bool _); congr 2; first | (simp; done) | (simp; omega))
set_option maxHeartbeats 4000000 in
set_option maxRecDepth 100000 in
theorem shardref1_broad.c12 (a0 : Int) (h0 : 64256 ≤ a0) (h1 : a0 ≤ 65071) (w : World) : Calls Try.prog 44 #[.int .i64 a0] w fun e w' => e = .returned (.bool false) ∧ Drawn0 w w' := by
  go_enter Try.func44, Try.ntmps44
  go_wp2
  go_ret
  refine ⟨?_, Drawn0.refl _⟩
  first | rfl | (show Ending.returned (.bool _) = .returned (.bool _); congr 2; first | (simp; done) | (simp; omega))
set_option maxHeartbeats 4000000 in
set_option maxRecDepth 100000 in
theorem shardref1_broad.c13 (a0 : Int) (h0 : 65072 ≤ a0) (h1 : a0 ≤ 65135) (w : World) : Calls Try.prog 44 #[.int .i64 a0] w fun e w' => e = .returned (.bool true) ∧ Drawn0 w w' := by
  go_enter Try.func44, Try.ntmps44
  go_wp2
  go_ret
  refine ⟨?_, Drawn0.refl _⟩
  first | rfl | (show Ending.returned (.bool _) = .returned (.bool _); congr 2; first | (simp; done) | (simp; omega))
set_option maxHeartbeats 4000000 in
set_option maxRecDepth 100000 in
theorem shardref1_broad.c14 (a0 : Int) (h0 : 65136 ≤ a0) (h1 : a0 ≤ 65280) (w : World) : Calls Try.prog 44 #[.int .i64 a0] w fun e w' => e = .returned (.bool false) ∧ Drawn0 w w' := by
  go_enter Try.func44, Try.ntmps44
  go_wp2
  go_ret
  refine ⟨?_, Drawn0.refl _⟩
  first | rfl | (show Ending.returned (.bool _) = .returned (.bool _); congr 2; first | (simp; done) | (simp; omega))
set_option maxHeartbeats 4000000 in
set_option maxRecDepth 100000 in
theorem shardref1_broad.c15 (a0 : Int) (h0 : 65281 ≤ a0) (h1 : a0 ≤ 65376) (w : World) : Calls Try.prog 44 #[.int .i64 a0] w fun e w' => e = .returned (.bool true) ∧ Drawn0 w w' := by
  go_enter Try.func44, Try.ntmps44
  go_wp2
  go_ret
  refine ⟨?_, Drawn0.refl _⟩
  first | rfl | (show Ending.returned (.bool _) = .returned (.bool _); congr 2; first | (simp; done) | (simp; omega))
set_option maxHeartbeats 4000000 in
set_option maxRecDepth 100000 in
theorem shardref1_broad.c16 (a0 : Int) (h0 : 65377 ≤ a0) (h1 : a0 ≤ 65503) (w : World) : Calls Try.prog 44 #[.int .i64 a0] w fun e w' => e = .returned (.bool false) ∧ Drawn0 w w' := by
  go_enter Try.func44, Try.ntmps44
  go_wp2
  go_ret
  refine ⟨?_, Drawn0.refl _⟩
  first | rfl | (show Ending.returned (.bool _) = .returned (.bool _); congr 2; first | (simp; done) | (simp; omega))
set_option maxHeartbeats 4000000 in
set_option maxRecDepth 100000 in
theorem shardref1_broad.c17 (a0 : Int) (h0 : 65504 ≤ a0) (h1 : a0 ≤ 65510) (w : World) : Calls Try.prog 44 #[.int .i64 a0] w fun e w' => e = .returned (.bool true) ∧ Drawn0 w w' := by
  go_enter Try.func44, Try.ntmps44
  go_wp2
  go_ret
  refine ⟨?_, Drawn0.refl _⟩
  first | rfl | (show Ending.returned (.bool _) = .returned (.bool _); congr 2; first | (simp; done) | (simp; omega))
set_option maxHeartbeats 4000000 in
set_option maxRecDepth 100000 in
theorem shardref1_broad.c18 (a0 : Int) (h0 : 65511 ≤ a0) (h1 : a0 ≤ 127743) (w : World) : Calls Try.prog 44 #[.int .i64 a0] w fun e w' => e = .returned (.bool false) ∧ Drawn0 w w' := by
  go_enter Try.func44, Try.ntmps44
  go_wp2
  go_ret
  refine ⟨?_, Drawn0.refl _⟩
  first | rfl | (show Ending.returned (.bool _) = .returned (.bool _); congr 2; first | (simp; done) | (simp; omega))
set_option maxHeartbeats 4000000 in
set_option maxRecDepth 100000 in
theorem shardref1_broad.c19 (a0 : Int) (h0 : 127744 ≤ a0) (h1 : a0 ≤ 128591) (w : World) : Calls Try.prog 44 #[.int .i64 a0] w fun e w' => e = .returned (.bool true) ∧ Drawn0 w w' := by
  go_enter Try.func44, Try.ntmps44
  go_wp2
  go_ret
  refine ⟨?_, Drawn0.refl _⟩
  first | rfl | (show Ending.returned (.bool _) = .returned (.bool _); congr 2; first | (simp; done) | (simp; omega))
set_option maxHeartbeats 4000000 in
set_option maxRecDepth 100000 in
theorem shardref1_broad.c20 (a0 : Int) (h0 : 128592 ≤ a0) (h1 : a0 ≤ 129279) (w : World) : Calls Try.prog 44 #[.int .i64 a0] w fun e w' => e = .returned (.bool false) ∧ Drawn0 w w' := by
  go_enter Try.func44, Try.ntmps44
  go_wp2
  go_ret
  refine ⟨?_, Drawn0.refl _⟩
  first | rfl | (show Ending.returned (.bool _) = .returned (.bool _); congr 2; first | (simp; done) | (simp; omega))
set_option maxHeartbeats 4000000 in
set_option maxRecDepth 100000 in
theorem shardref1_broad.c21 (a0 : Int) (h0 : 129280 ≤ a0) (h1 : a0 ≤ 129535) (w : World) : Calls Try.prog 44 #[.int .i64 a0] w fun e w' => e = .returned (.bool true) ∧ Drawn0 w w' := by
  go_enter Try.func44, Try.ntmps44
  go_wp2
  go_ret
  refine ⟨?_, Drawn0.refl _⟩
  first | rfl | (show Ending.returned (.bool _) = .returned (.bool _); congr 2; first | (simp; done) | (simp; omega))
set_option maxHeartbeats 4000000 in
set_option maxRecDepth 100000 in
theorem shardref1_broad.c22 (a0 : Int) (h0 : 129536 ≤ a0) (h1 : a0 ≤ 131071) (w : World) : Calls Try.prog 44 #[.int .i64 a0] w fun e w' => e = .returned (.bool false) ∧ Drawn0 w w' := by
  go_enter Try.func44, Try.ntmps44
  go_wp2
  go_ret
  refine ⟨?_, Drawn0.refl _⟩
  first | rfl | (show Ending.returned (.bool _) = .returned (.bool _); congr 2; first | (simp; done) | (simp; omega))
set_option maxHeartbeats 4000000 in
set_option maxRecDepth 100000 in
theorem shardref1_broad.c23 (a0 : Int) (h0 : 131072 ≤ a0) (h1 : a0 ≤ 262141) (w : World) : Calls Try.prog 44 #[.int .i64 a0] w fun e w' => e = .returned (.bool true) ∧ Drawn0 w w' := by
  go_enter Try.func44, Try.ntmps44
  go_wp2
  go_ret
  refine ⟨?_, Drawn0.refl _⟩
  first | rfl | (show Ending.returned (.bool _) = .returned (.bool _); congr 2; first | (simp; done) | (simp; omega))
set_option maxHeartbeats 4000000 in
set_option maxRecDepth 100000 in
theorem shardref1_broad.c24 (a0 : Int) (h0 : 262142 ≤ a0) (w : World) : Calls Try.prog 44 #[.int .i64 a0] w fun e w' => e = .returned (.bool false) ∧ Drawn0 w w' := by
  go_enter Try.func44, Try.ntmps44
  go_wp2
  go_ret
  refine ⟨?_, Drawn0.refl _⟩
  first | rfl | (show Ending.returned (.bool _) = .returned (.bool _); congr 2; first | (simp; done) | (simp; omega))
theorem shardref1_broad.calls (a0 : Int) (r : Bool) (w : World) (h : shardref1_broad.f a0 = some r) : Calls Try.prog 44 #[.int .i64 a0] w fun e w' => e = .returned (.bool r) ∧ Drawn0 w w' := by
  obtain rfl := Option.some.inj h
  by_cases k0 : a0 ≤ 4351
  · rw [decide_eq_false (show ¬ ((4352 ≤ a0 ∧ a0 ≤ 4447) ∨ (11904 ≤ a0 ∧ a0 ≤ 12350) ∨ (12353 ≤ a0 ∧ a0 ≤ 19903) ∨ (19968 ≤ a0 ∧ a0 ≤ 42191) ∨ (44032 ≤ a0 ∧ a0 ≤ 55203) ∨ (63744 ≤ a0 ∧ a0 ≤ 64255) ∨ (65072 ≤ a0 ∧ a0 ≤ 65135) ∨ (65281 ≤ a0 ∧ a0 ≤ 65376) ∨ (65504 ≤ a0 ∧ a0 ≤ 65510) ∨ (127744 ≤ a0 ∧ a0 ≤ 128591) ∨ (129280 ≤ a0 ∧ a0 ≤ 129535) ∨ (131072 ≤ a0 ∧ a0 ≤ 262141)) by omega)]
    exact shardref1_broad.c0 a0 (by omega) w
  by_cases k1 : a0 ≤ 4447
  · rw [decide_eq_true (show (4352 ≤ a0 ∧ a0 ≤ 4447) ∨ (11904 ≤ a0 ∧ a0 ≤ 12350) ∨ (12353 ≤ a0 ∧ a0 ≤ 19903) ∨ (19968 ≤ a0 ∧ a0 ≤ 42191) ∨ (44032 ≤ a0 ∧ a0 ≤ 55203) ∨ (63744 ≤ a0 ∧ a0 ≤ 64255) ∨ (65072 ≤ a0 ∧ a0 ≤ 65135) ∨ (65281 ≤ a0 ∧ a0 ≤ 65376) ∨ (65504 ≤ a0 ∧ a0 ≤ 65510) ∨ (127744 ≤ a0 ∧ a0 ≤ 128591) ∨ (129280 ≤ a0 ∧ a0 ≤ 129535) ∨ (131072 ≤ a0 ∧ a0 ≤ 262141) by omega)]
    exact shardref1_broad.c1 a0 (by omega) (by omega) w
  by_cases k2 : a0 ≤ 11903
  · rw [decide_eq_false (show ¬ ((4352 ≤ a0 ∧ a0 ≤ 4447) ∨ (11904 ≤ a0 ∧ a0 ≤ 12350) ∨ (12353 ≤ a0 ∧ a0 ≤ 19903) ∨ (19968 ≤ a0 ∧ a0 ≤ 42191) ∨ (44032 ≤ a0 ∧ a0 ≤ 55203) ∨ (63744 ≤ a0 ∧ a0 ≤ 64255) ∨ (65072 ≤ a0 ∧ a0 ≤ 65135) ∨ (65281 ≤ a0 ∧ a0 ≤ 65376) ∨ (65504 ≤ a0 ∧ a0 ≤ 65510) ∨ (127744 ≤ a0 ∧ a0 ≤ 128591) ∨ (129280 ≤ a0 ∧ a0 ≤ 129535) ∨ (131072 ≤ a0 ∧ a0 ≤ 262141)) by omega)]
    exact shardref1_broad.c2 a0 (by omega) (by omega) w
  by_cases k3 : a0 ≤ 12350
  · rw [decide_eq_true (show (4352 ≤ a0 ∧ a0 ≤ 4447) ∨ (11904 ≤ a0 ∧ a0 ≤ 12350) ∨ (12353 ≤ a0 ∧ a0 ≤ 19903) ∨ (19968 ≤ a0 ∧ a0 ≤ 42191) ∨ (44032 ≤ a0 ∧ a0 ≤ 55203) ∨ (63744 ≤ a0 ∧ a0 ≤ 64255) ∨ (65072 ≤ a0 ∧ a0 ≤ 65135) ∨ (65281 ≤ a0 ∧ a0 ≤ 65376) ∨ (65504 ≤ a0 ∧ a0 ≤ 65510) ∨ (127744 ≤ a0 ∧ a0 ≤ 128591) ∨ (129280 ≤ a0 ∧ a0 ≤ 129535) ∨ (131072 ≤ a0 ∧ a0 ≤ 262141) by omega)]
    exact shardref1_broad.c3 a0 (by omega) (by omega) w
  by_cases k4 : a0 ≤ 12352
  · rw [decide_eq_false (show ¬ ((4352 ≤ a0 ∧ a0 ≤ 4447) ∨ (11904 ≤ a0 ∧ a0 ≤ 12350) ∨ (12353 ≤ a0 ∧ a0 ≤ 19903) ∨ (19968 ≤ a0 ∧ a0 ≤ 42191) ∨ (44032 ≤ a0 ∧ a0 ≤ 55203) ∨ (63744 ≤ a0 ∧ a0 ≤ 64255) ∨ (65072 ≤ a0 ∧ a0 ≤ 65135) ∨ (65281 ≤ a0 ∧ a0 ≤ 65376) ∨ (65504 ≤ a0 ∧ a0 ≤ 65510) ∨ (127744 ≤ a0 ∧ a0 ≤ 128591) ∨ (129280 ≤ a0 ∧ a0 ≤ 129535) ∨ (131072 ≤ a0 ∧ a0 ≤ 262141)) by omega)]
    exact shardref1_broad.c4 a0 (by omega) (by omega) w
  by_cases k5 : a0 ≤ 19903
  · rw [decide_eq_true (show (4352 ≤ a0 ∧ a0 ≤ 4447) ∨ (11904 ≤ a0 ∧ a0 ≤ 12350) ∨ (12353 ≤ a0 ∧ a0 ≤ 19903) ∨ (19968 ≤ a0 ∧ a0 ≤ 42191) ∨ (44032 ≤ a0 ∧ a0 ≤ 55203) ∨ (63744 ≤ a0 ∧ a0 ≤ 64255) ∨ (65072 ≤ a0 ∧ a0 ≤ 65135) ∨ (65281 ≤ a0 ∧ a0 ≤ 65376) ∨ (65504 ≤ a0 ∧ a0 ≤ 65510) ∨ (127744 ≤ a0 ∧ a0 ≤ 128591) ∨ (129280 ≤ a0 ∧ a0 ≤ 129535) ∨ (131072 ≤ a0 ∧ a0 ≤ 262141) by omega)]
    exact shardref1_broad.c5 a0 (by omega) (by omega) w
  by_cases k6 : a0 ≤ 19967
  · rw [decide_eq_false (show ¬ ((4352 ≤ a0 ∧ a0 ≤ 4447) ∨ (11904 ≤ a0 ∧ a0 ≤ 12350) ∨ (12353 ≤ a0 ∧ a0 ≤ 19903) ∨ (19968 ≤ a0 ∧ a0 ≤ 42191) ∨ (44032 ≤ a0 ∧ a0 ≤ 55203) ∨ (63744 ≤ a0 ∧ a0 ≤ 64255) ∨ (65072 ≤ a0 ∧ a0 ≤ 65135) ∨ (65281 ≤ a0 ∧ a0 ≤ 65376) ∨ (65504 ≤ a0 ∧ a0 ≤ 65510) ∨ (127744 ≤ a0 ∧ a0 ≤ 128591) ∨ (129280 ≤ a0 ∧ a0 ≤ 129535) ∨ (131072 ≤ a0 ∧ a0 ≤ 262141)) by omega)]
    exact shardref1_broad.c6 a0 (by omega) (by omega) w
  by_cases k7 : a0 ≤ 42191
  · rw [decide_eq_true (show (4352 ≤ a0 ∧ a0 ≤ 4447) ∨ (11904 ≤ a0 ∧ a0 ≤ 12350) ∨ (12353 ≤ a0 ∧ a0 ≤ 19903) ∨ (19968 ≤ a0 ∧ a0 ≤ 42191) ∨ (44032 ≤ a0 ∧ a0 ≤ 55203) ∨ (63744 ≤ a0 ∧ a0 ≤ 64255) ∨ (65072 ≤ a0 ∧ a0 ≤ 65135) ∨ (65281 ≤ a0 ∧ a0 ≤ 65376) ∨ (65504 ≤ a0 ∧ a0 ≤ 65510) ∨ (127744 ≤ a0 ∧ a0 ≤ 128591) ∨ (129280 ≤ a0 ∧ a0 ≤ 129535) ∨ (131072 ≤ a0 ∧ a0 ≤ 262141) by omega)]
    exact shardref1_broad.c7 a0 (by omega) (by omega) w
  by_cases k8 : a0 ≤ 44031
  · rw [decide_eq_false (show ¬ ((4352 ≤ a0 ∧ a0 ≤ 4447) ∨ (11904 ≤ a0 ∧ a0 ≤ 12350) ∨ (12353 ≤ a0 ∧ a0 ≤ 19903) ∨ (19968 ≤ a0 ∧ a0 ≤ 42191) ∨ (44032 ≤ a0 ∧ a0 ≤ 55203) ∨ (63744 ≤ a0 ∧ a0 ≤ 64255) ∨ (65072 ≤ a0 ∧ a0 ≤ 65135) ∨ (65281 ≤ a0 ∧ a0 ≤ 65376) ∨ (65504 ≤ a0 ∧ a0 ≤ 65510) ∨ (127744 ≤ a0 ∧ a0 ≤ 128591) ∨ (129280 ≤ a0 ∧ a0 ≤ 129535) ∨ (131072 ≤ a0 ∧ a0 ≤ 262141)) by omega)]
    exact shardref1_broad.c8 a0 (by omega) (by omega) w
  by_cases k9 : a0 ≤ 55203
  · rw [decide_eq_true (show (4352 ≤ a0 ∧ a0 ≤ 4447) ∨ (11904 ≤ a0 ∧ a0 ≤ 12350) ∨ (12353 ≤ a0 ∧ a0 ≤ 19903) ∨ (19968 ≤ a0 ∧ a0 ≤ 42191) ∨ (44032 ≤ a0 ∧ a0 ≤ 55203) ∨ (63744 ≤ a0 ∧ a0 ≤ 64255) ∨ (65072 ≤ a0 ∧ a0 ≤ 65135) ∨ (65281 ≤ a0 ∧ a0 ≤ 65376) ∨ (65504 ≤ a0 ∧ a0 ≤ 65510) ∨ (127744 ≤ a0 ∧ a0 ≤ 128591) ∨ (129280 ≤ a0 ∧ a0 ≤ 129535) ∨ (131072 ≤ a0 ∧ a0 ≤ 262141) by omega)]
    exact shardref1_broad.c9 a0 (by omega) (by omega) w
  by_cases k10 : a0 ≤ 63743
  · rw [decide_eq_false (show ¬ ((4352 ≤ a0 ∧ a0 ≤ 4447) ∨ (11904 ≤ a0 ∧ a0 ≤ 12350) ∨ (12353 ≤ a0 ∧ a0 ≤ 19903) ∨ (19968 ≤ a0 ∧ a0 ≤ 42191) ∨ (44032 ≤ a0 ∧ a0 ≤ 55203) ∨ (63744 ≤ a0 ∧ a0 ≤ 64255) ∨ (65072 ≤ a0 ∧ a0 ≤ 65135) ∨ (65281 ≤ a0 ∧ a0 ≤ 65376) ∨ (65504 ≤ a0 ∧ a0 ≤ 65510) ∨ (127744 ≤ a0 ∧ a0 ≤ 128591) ∨ (129280 ≤ a0 ∧ a0 ≤ 129535) ∨ (131072 ≤ a0 ∧ a0 ≤ 262141)) by omega)]
    exact shardref1_broad.c10 a0 (by omega) (by omega) w
  by_cases k11 : a0 ≤ 64255
  · rw [decide_eq_true (show (4352 ≤ a0 ∧ a0 ≤ 4447) ∨ (11904 ≤ a0 ∧ a0 ≤ 12350) ∨ (12353 ≤ a0 ∧ a0 ≤ 19903) ∨ (19968 ≤ a0 ∧ a0 ≤ 42191) ∨ (44032 ≤ a0 ∧ a0 ≤ 55203) ∨ (63744 ≤ a0 ∧ a0 ≤ 64255) ∨ (65072 ≤ a0 ∧ a0 ≤ 65135) ∨ (65281 ≤ a0 ∧ a0 ≤ 65376) ∨ (65504 ≤ a0 ∧ a0 ≤ 65510) ∨ (127744 ≤ a0 ∧ a0 ≤ 128591) ∨ (129280 ≤ a0 ∧ a0 ≤ 129535) ∨ (131072 ≤ a0 ∧ a0 ≤ 262141) by omega)]
    exact shardref1_broad.c11 a0 (by omega) (by omega) w
  by_cases k12 : a0 ≤ 65071
  · rw [decide_eq_false (show ¬ ((4352 ≤ a0 ∧ a0 ≤ 4447) ∨ (11904 ≤ a0 ∧ a0 ≤ 12350) ∨ (12353 ≤ a0 ∧ a0 ≤ 19903) ∨ (19968 ≤ a0 ∧ a0 ≤ 42191) ∨ (44032 ≤ a0 ∧ a0 ≤ 55203) ∨ (63744 ≤ a0 ∧ a0 ≤ 64255) ∨ (65072 ≤ a0 ∧ a0 ≤ 65135) ∨ (65281 ≤ a0 ∧ a0 ≤ 65376) ∨ (65504 ≤ a0 ∧ a0 ≤ 65510) ∨ (127744 ≤ a0 ∧ a0 ≤ 128591) ∨ (129280 ≤ a0 ∧ a0 ≤ 129535) ∨ (131072 ≤ a0 ∧ a0 ≤ 262141)) by omega)]
    exact shardref1_broad.c12 a0 (by omega) (by omega) w
  by_cases k13 : a0 ≤ 65135
  · rw [decide_eq_true (show (4352 ≤ a0 ∧ a0 ≤ 4447) ∨ (11904 ≤ a0 ∧ a0 ≤ 12350) ∨ (12353 ≤ a0 ∧ a0 ≤ 19903) ∨ (19968 ≤ a0 ∧ a0 ≤ 42191) ∨ (44032 ≤ a0 ∧ a0 ≤ 55203) ∨ (63744 ≤ a0 ∧ a0 ≤ 64255) ∨ (65072 ≤ a0 ∧ a0 ≤ 65135) ∨ (65281 ≤ a0 ∧ a0 ≤ 65376) ∨ (65504 ≤ a0 ∧ a0 ≤ 65510) ∨ (127744 ≤ a0 ∧ a0 ≤ 128591) ∨ (129280 ≤ a0 ∧ a0 ≤ 129535) ∨ (131072 ≤ a0 ∧ a0 ≤ 262141) by omega)]
    exact shardref1_broad.c13 a0 (by omega) (by omega) w
  by_cases k14 : a0 ≤ 65280
  · rw [decide_eq_false (show ¬ ((4352 ≤ a0 ∧ a0 ≤ 4447) ∨ (11904 ≤ a0 ∧ a0 ≤ 12350) ∨ (12353 ≤ a0 ∧ a0 ≤ 19903) ∨ (19968 ≤ a0 ∧ a0 ≤ 42191) ∨ (44032 ≤ a0 ∧ a0 ≤ 55203) ∨ (63744 ≤ a0 ∧ a0 ≤ 64255) ∨ (65072 ≤ a0 ∧ a0 ≤ 65135) ∨ (65281 ≤ a0 ∧ a0 ≤ 65376) ∨ (65504 ≤ a0 ∧ a0 ≤ 65510) ∨ (127744 ≤ a0 ∧ a0 ≤ 128591) ∨ (129280 ≤ a0 ∧ a0 ≤ 129535) ∨ (131072 ≤ a0 ∧ a0 ≤ 262141)) by omega)]
    exact shardref1_broad.c14 a0 (by omega) (by omega) w
  by_cases k15 : a0 ≤ 65376
  · rw [decide_eq_true (show (4352 ≤ a0 ∧ a0 ≤ 4447) ∨ (11904 ≤ a0 ∧ a0 ≤ 12350) ∨ (12353 ≤ a0 ∧ a0 ≤ 19903) ∨ (19968 ≤ a0 ∧ a0 ≤ 42191) ∨ (44032 ≤ a0 ∧ a0 ≤ 55203) ∨ (63744 ≤ a0 ∧ a0 ≤ 64255) ∨ (65072 ≤ a0 ∧ a0 ≤ 65135) ∨ (65281 ≤ a0 ∧ a0 ≤ 65376) ∨ (65504 ≤ a0 ∧ a0 ≤ 65510) ∨ (127744 ≤ a0 ∧ a0 ≤ 128591) ∨ (129280 ≤ a0 ∧ a0 ≤ 129535) ∨ (131072 ≤ a0 ∧ a0 ≤ 262141) by omega)]
    exact shardref1_broad.c15 a0 (by omega) (by omega) w
  by_cases k16 : a0 ≤ 65503
  · rw [decide_eq_false (show ¬ ((4352 ≤ a0 ∧ a0 ≤ 4447) ∨ (11904 ≤ a0 ∧ a0 ≤ 12350) ∨ (12353 ≤ a0 ∧ a0 ≤ 19903) ∨ (19968 ≤ a0 ∧ a0 ≤ 42191) ∨ (44032 ≤ a0 ∧ a0 ≤ 55203) ∨ (63744 ≤ a0 ∧ a0 ≤ 64255) ∨ (65072 ≤ a0 ∧ a0 ≤ 65135) ∨ (65281 ≤ a0 ∧ a0 ≤ 65376) ∨ (65504 ≤ a0 ∧ a0 ≤ 65510) ∨ (127744 ≤ a0 ∧ a0 ≤ 128591) ∨ (129280 ≤ a0 ∧ a0 ≤ 129535) ∨ (131072 ≤ a0 ∧ a0 ≤ 262141)) by omega)]
    exact shardref1_broad.c16 a0 (by omega) (by omega) w
  by_cases k17 : a0 ≤ 65510
  · rw [decide_eq_true (show (4352 ≤ a0 ∧ a0 ≤ 4447) ∨ (11904 ≤ a0 ∧ a0 ≤ 12350) ∨ (12353 ≤ a0 ∧ a0 ≤ 19903) ∨ (19968 ≤ a0 ∧ a0 ≤ 42191) ∨ (44032 ≤ a0 ∧ a0 ≤ 55203) ∨ (63744 ≤ a0 ∧ a0 ≤ 64255) ∨ (65072 ≤ a0 ∧ a0 ≤ 65135) ∨ (65281 ≤ a0 ∧ a0 ≤ 65376) ∨ (65504 ≤ a0 ∧ a0 ≤ 65510) ∨ (127744 ≤ a0 ∧ a0 ≤ 128591) ∨ (129280 ≤ a0 ∧ a0 ≤ 129535) ∨ (131072 ≤ a0 ∧ a0 ≤ 262141) by omega)]
    exact shardref1_broad.c17 a0 (by omega) (by omega) w
  by_cases k18 : a0 ≤ 127743
  · rw [decide_eq_false (show ¬ ((4352 ≤ a0 ∧ a0 ≤ 4447) ∨ (11904 ≤ a0 ∧ a0 ≤ 12350) ∨ (12353 ≤ a0 ∧ a0 ≤ 19903) ∨ (19968 ≤ a0 ∧ a0 ≤ 42191) ∨ (44032 ≤ a0 ∧ a0 ≤ 55203) ∨ (63744 ≤ a0 ∧ a0 ≤ 64255) ∨ (65072 ≤ a0 ∧ a0 ≤ 65135) ∨ (65281 ≤ a0 ∧ a0 ≤ 65376) ∨ (65504 ≤ a0 ∧ a0 ≤ 65510) ∨ (127744 ≤ a0 ∧ a0 ≤ 128591) ∨ (129280 ≤ a0 ∧ a0 ≤ 129535) ∨ (131072 ≤ a0 ∧ a0 ≤ 262141)) by omega)]
    exact shardref1_broad.c18 a0 (by omega) (by omega) w
  by_cases k19 : a0 ≤ 128591
  · rw [decide_eq_true (show (4352 ≤ a0 ∧ a0 ≤ 4447) ∨ (11904 ≤ a0 ∧ a0 ≤ 12350) ∨ (12353 ≤ a0 ∧ a0 ≤ 19903) ∨ (19968 ≤ a0 ∧ a0 ≤ 42191) ∨ (44032 ≤ a0 ∧ a0 ≤ 55203) ∨ (63744 ≤ a0 ∧ a0 ≤ 64255) ∨ (65072 ≤ a0 ∧ a0 ≤ 65135) ∨ (65281 ≤ a0 ∧ a0 ≤ 65376) ∨ (65504 ≤ a0 ∧ a0 ≤ 65510) ∨ (127744 ≤ a0 ∧ a0 ≤ 128591) ∨ (129280 ≤ a0 ∧ a0 ≤ 129535) ∨ (131072 ≤ a0 ∧ a0 ≤ 262141) by omega)]
    exact shardref1_broad.c19 a0 (by omega) (by omega) w
  by_cases k20 : a0 ≤ 129279
  · rw [decide_eq_false (show ¬ ((4352 ≤ a0 ∧ a0 ≤ 4447) ∨ (11904 ≤ a0 ∧ a0 ≤ 12350) ∨ (12353 ≤ a0 ∧ a0 ≤ 19903) ∨ (19968 ≤ a0 ∧ a0 ≤ 42191) ∨ (44032 ≤ a0 ∧ a0 ≤ 55203) ∨ (63744 ≤ a0 ∧ a0 ≤ 64255) ∨ (65072 ≤ a0 ∧ a0 ≤ 65135) ∨ (65281 ≤ a0 ∧ a0 ≤ 65376) ∨ (65504 ≤ a0 ∧ a0 ≤ 65510) ∨ (127744 ≤ a0 ∧ a0 ≤ 128591) ∨ (129280 ≤ a0 ∧ a0 ≤ 129535) ∨ (131072 ≤ a0 ∧ a0 ≤ 262141)) by omega)]
    exact shardref1_broad.c20 a0 (by omega) (by omega) w
  by_cases k21 : a0 ≤ 129535
  · rw [decide_eq_true (show (4352 ≤ a0 ∧ a0 ≤ 4447) ∨ (11904 ≤ a0 ∧ a0 ≤ 12350) ∨ (12353 ≤ a0 ∧ a0 ≤ 19903) ∨ (19968 ≤ a0 ∧ a0 ≤ 42191) ∨ (44032 ≤ a0 ∧ a0 ≤ 55203) ∨ (63744 ≤ a0 ∧ a0 ≤ 64255) ∨ (65072 ≤ a0 ∧ a0 ≤ 65135) ∨ (65281 ≤ a0 ∧ a0 ≤ 65376) ∨ (65504 ≤ a0 ∧ a0 ≤ 65510) ∨ (127744 ≤ a0 ∧ a0 ≤ 128591) ∨ (129280 ≤ a0 ∧ a0 ≤ 129535) ∨ (131072 ≤ a0 ∧ a0 ≤ 262141) by omega)]
    exact shardref1_broad.c21 a0 (by omega) (by omega) w
  by_cases k22 : a0 ≤ 131071
  · rw [decide_eq_false (show ¬ ((4352 ≤ a0 ∧ a0 ≤ 4447) ∨ (11904 ≤ a0 ∧ a0 ≤ 12350) ∨ (12353 ≤ a0 ∧ a0 ≤ 19903) ∨ (19968 ≤ a0 ∧ a0 ≤ 42191) ∨ (44032 ≤ a0 ∧ a0 ≤ 55203) ∨ (63744 ≤ a0 ∧ a0 ≤ 64255) ∨ (65072 ≤ a0 ∧ a0 ≤ 65135) ∨ (65281 ≤ a0 ∧ a0 ≤ 65376) ∨ (65504 ≤ a0 ∧ a0 ≤ 65510) ∨ (127744 ≤ a0 ∧ a0 ≤ 128591) ∨ (129280 ≤ a0 ∧ a0 ≤ 129535) ∨ (131072 ≤ a0 ∧ a0 ≤ 262141)) by omega)]
    exact shardref1_broad.c22 a0 (by omega) (by omega) w
  by_cases k23 : a0 ≤ 262141
  · rw [decide_eq_true (show (4352 ≤ a0 ∧ a0 ≤ 4447) ∨ (11904 ≤ a0 ∧ a0 ≤ 12350) ∨ (12353 ≤ a0 ∧ a0 ≤ 19903) ∨ (19968 ≤ a0 ∧ a0 ≤ 42191) ∨ (44032 ≤ a0 ∧ a0 ≤ 55203) ∨ (63744 ≤ a0 ∧ a0 ≤ 64255) ∨ (65072 ≤ a0 ∧ a0 ≤ 65135) ∨ (65281 ≤ a0 ∧ a0 ≤ 65376) ∨ (65504 ≤ a0 ∧ a0 ≤ 65510) ∨ (127744 ≤ a0 ∧ a0 ≤ 128591) ∨ (129280 ≤ a0 ∧ a0 ≤ 129535) ∨ (131072 ≤ a0 ∧ a0 ≤ 262141) by omega)]
    exact shardref1_broad.c23 a0 (by omega) (by omega) w
  rw [decide_eq_false (show ¬ ((4352 ≤ a0 ∧ a0 ≤ 4447) ∨ (11904 ≤ a0 ∧ a0 ≤ 12350) ∨ (12353 ≤ a0 ∧ a0 ≤ 19903) ∨ (19968 ≤ a0 ∧ a0 ≤ 42191) ∨ (44032 ≤ a0 ∧ a0 ≤ 55203) ∨ (63744 ≤ a0 ∧ a0 ≤ 64255) ∨ (65072 ≤ a0 ∧ a0 ≤ 65135) ∨ (65281 ≤ a0 ∧ a0 ≤ 65376) ∨ (65504 ≤ a0 ∧ a0 ≤ 65510) ∨ (127744 ≤ a0 ∧ a0 ≤ 128591) ∨ (129280 ≤ a0 ∧ a0 ≤ 129535) ∨ (131072 ≤ a0 ∧ a0 ≤ 262141)) by omega)]
  exact shardref1_broad.c24 a0 (by omega) w

end Go.Proofs.Ytghhpgpcbnkamaa.P
