-- Written by printx.py (this work's driver over the kit's print) out of the translation; Lean checks it.
import Derived.Test.YtghhpgpcbnkamaaPx0
namespace Go.Proofs.Ytghhpgpcbnkamaa.P
open Go.RowKit Go.Proofs.YtghhpgpcbnkamaaW.PrintWords Go.Proofs.YtghhpgpcbnkamaaW.PrintLast Go.Proofs.YtghhpgpcbnkamaaW.PrintMore
attribute [local go_sem] max2_int min2_int max_two min_two max_three min_three max_four min_four   -- for this text's walks alone
set_option linter.unusedVariables false
set_option linter.unusedSimpArgs false

/-! ### shardref1_Hidden: function 40 -/
mutual
def shardref1_Hidden.j0 : Nat → Int → Bool → Option (Bool)
  | 0, _, _ => none
  | k + 1, x0, x28 => if x28 = true then (some true) else (if x0 = 5760 then (shardref1_Hidden.j1 k x0 true) else (if x0 = 6158 then (shardref1_Hidden.j1 k x0 true) else (if x0 ≥ 8192 then (if x0 ≤ 8207 then (shardref1_Hidden.j1 k x0 true) else (if x0 ≥ 8232 then (shardref1_Hidden.j1 k x0 (decide (x0 ≤ 8239))) else (shardref1_Hidden.j1 k x0 false))) else (if x0 ≥ 8232 then (shardref1_Hidden.j1 k x0 (decide (x0 ≤ 8239))) else (shardref1_Hidden.j1 k x0 false)))))
def shardref1_Hidden.j1 : Nat → Int → Bool → Option (Bool)
  | 0, _, _ => none
  | k + 1, x0, x50 => if x50 = true then (some true) else (if x0 ≥ 8287 then (if x0 ≤ 8303 then (shardref1_Hidden.j2 k x0 true) else (if x0 = 12288 then (shardref1_Hidden.j2 k x0 true) else (if x0 ≥ 55296 then (if x0 ≤ 63743 then (shardref1_Hidden.j2 k x0 true) else (if x0 ≥ 64976 then (shardref1_Hidden.j2 k x0 (decide (x0 ≤ 65007))) else (shardref1_Hidden.j2 k x0 false))) else (if x0 ≥ 64976 then (shardref1_Hidden.j2 k x0 (decide (x0 ≤ 65007))) else (shardref1_Hidden.j2 k x0 false))))) else (if x0 = 12288 then (shardref1_Hidden.j2 k x0 true) else (if x0 ≥ 55296 then (if x0 ≤ 63743 then (shardref1_Hidden.j2 k x0 true) else (if x0 ≥ 64976 then (shardref1_Hidden.j2 k x0 (decide (x0 ≤ 65007))) else (shardref1_Hidden.j2 k x0 false))) else (if x0 ≥ 64976 then (shardref1_Hidden.j2 k x0 (decide (x0 ≤ 65007))) else (shardref1_Hidden.j2 k x0 false)))))
def shardref1_Hidden.j2 : Nat → Int → Bool → Option (Bool)
  | 0, _, _ => none
  | k + 1, x0, x76 => if x76 = true then (some true) else (if x0 = 65279 then (some true) else (if x0 ≥ 65529 then (if x0 ≤ 65531 then (some true) else (if x0 = 65534 then (some true) else (if x0 = 65535 then (some true) else (if x0 ≥ 917504 then (some true) else (some (decide ((Int.tmod x0 65536) ≥ 65534))))))) else (if x0 = 65534 then (some true) else (if x0 = 65535 then (some true) else (if x0 ≥ 917504 then (some true) else (some (decide ((Int.tmod x0 65536) ≥ 65534))))))))
end
def shardref1_Hidden.f (k : Nat) (a0 : Int) : Option (Bool) := if a0 < 0 then (shardref1_Hidden.j0 k a0 true) else (if a0 > 1114111 then (shardref1_Hidden.j0 k a0 true) else (if a0 ≤ 31 then (shardref1_Hidden.j0 k a0 true) else (if a0 ≥ 127 then (if a0 ≤ 160 then (shardref1_Hidden.j0 k a0 true) else (if a0 = 173 then (shardref1_Hidden.j0 k a0 true) else (shardref1_Hidden.j0 k a0 (a0 == 1564)))) else (if a0 = 173 then (shardref1_Hidden.j0 k a0 true) else (shardref1_Hidden.j0 k a0 (a0 == 1564))))))
theorem shardref1_Hidden.mono_l : ∀ k, (∀ y0 y1, LeO (shardref1_Hidden.j0 k y0 y1) (shardref1_Hidden.j0 (k + 1) y0 y1)) ∧ (∀ y0 y1, LeO (shardref1_Hidden.j1 k y0 y1) (shardref1_Hidden.j1 (k + 1) y0 y1)) ∧ (∀ y0 y1, LeO (shardref1_Hidden.j2 k y0 y1) (shardref1_Hidden.j2 (k + 1) y0 y1))
  | 0 => ⟨fun _ _ r h => by simp [shardref1_Hidden.j0] at h, fun _ _ r h => by simp [shardref1_Hidden.j1] at h, fun _ _ r h => by simp [shardref1_Hidden.j2] at h⟩
  | k + 1 => by
    obtain ⟨ih0, ih1, ih2⟩ := shardref1_Hidden.mono_l k
    refine ⟨?_, ?_, ?_⟩
    · intro y0 y1
      unfold shardref1_Hidden.j0
      repeat' first
      | (with_reducible exact ih0 _ _)
      | (with_reducible exact ih1 _ _)
      | (with_reducible exact ih2 _ _)
      | (with_reducible exact LeO.refl _)
      | (with_reducible exact LeO.none _)
      | (with_reducible refine LeO.ite ?_ ?_)
      | (with_reducible refine LeO.bind ?_ (fun _ => ?_))
      | exact ih0 _ _
      | exact ih1 _ _
      | exact ih2 _ _
      | exact LeO.none _
      | refine LeO.ite ?_ ?_
      | refine LeO.bind ?_ (fun _ => ?_)
    · intro y0 y1
      unfold shardref1_Hidden.j1
      repeat' first
      | (with_reducible exact ih0 _ _)
      | (with_reducible exact ih1 _ _)
      | (with_reducible exact ih2 _ _)
      | (with_reducible exact LeO.refl _)
      | (with_reducible exact LeO.none _)
      | (with_reducible refine LeO.ite ?_ ?_)
      | (with_reducible refine LeO.bind ?_ (fun _ => ?_))
      | exact ih0 _ _
      | exact ih1 _ _
      | exact ih2 _ _
      | exact LeO.none _
      | refine LeO.ite ?_ ?_
      | refine LeO.bind ?_ (fun _ => ?_)
    · intro y0 y1
      unfold shardref1_Hidden.j2
      repeat' first
      | (with_reducible exact ih0 _ _)
      | (with_reducible exact ih1 _ _)
      | (with_reducible exact ih2 _ _)
      | (with_reducible exact LeO.refl _)
      | (with_reducible exact LeO.none _)
      | (with_reducible refine LeO.ite ?_ ?_)
      | (with_reducible refine LeO.bind ?_ (fun _ => ?_))
      | exact ih0 _ _
      | exact ih1 _ _
      | exact ih2 _ _
      | exact LeO.none _
      | refine LeO.ite ?_ ?_
      | refine LeO.bind ?_ (fun _ => ?_)
theorem shardref1_Hidden.mono : ∀ a0 k, LeO (shardref1_Hidden.f k a0) (shardref1_Hidden.f (k + 1) a0) := by
  intro a0 k
  obtain ⟨ih0, ih1, ih2⟩ := shardref1_Hidden.mono_l k
  unfold shardref1_Hidden.f
  repeat' first
      | (with_reducible exact ih0 _ _)
      | (with_reducible exact ih1 _ _)
      | (with_reducible exact ih2 _ _)
      | (with_reducible exact LeO.refl _)
      | (with_reducible exact LeO.none _)
      | (with_reducible refine LeO.ite ?_ ?_)
      | (with_reducible refine LeO.bind ?_ (fun _ => ?_))
      | exact ih0 _ _
      | exact ih1 _ _
      | exact ih2 _ _
      | exact LeO.none _
      | refine LeO.ite ?_ ?_
      | refine LeO.bind ?_ (fun _ => ?_)
set_option maxHeartbeats 8000000 in
set_option maxRecDepth 100000 in
theorem shardref1_Hidden.calls (k : Nat) (a0 : Int) (r : Bool) (w : World) (h : shardref1_Hidden.f k a0 = some r) :
    Calls Try.prog 40 #[.int .i64 a0] w fun e w' => e = .returned (.bool r) ∧ Drawn0 w w' := by
  have H : (if a0 < 0 then (shardref1_Hidden.j0 k a0 true) else (if a0 > 1114111 then (shardref1_Hidden.j0 k a0 true) else (if a0 ≤ 31 then (shardref1_Hidden.j0 k a0 true) else (if a0 ≥ 127 then (if a0 ≤ 160 then (shardref1_Hidden.j0 k a0 true) else (if a0 = 173 then (shardref1_Hidden.j0 k a0 true) else (shardref1_Hidden.j0 k a0 (a0 == 1564)))) else (if a0 = 173 then (shardref1_Hidden.j0 k a0 true) else (shardref1_Hidden.j0 k a0 (a0 == 1564))))))) = some r := h
  clear h
  have HC2 := Aside0.mk H
  clear H
  go_enter Try.func40, Try.ntmps40
  go_upto_region 1 with (fail)
  go_cut [28] (fun v28 wc => ∃ (kq : Nat) (x28_1 : Bool), v28 = .bool x28_1 ∧ Aside0 (shardref1_Hidden.j0 kq a0 x28_1 = some r) ∧ Aside0 (kq ≤ k) ∧ Drawn0 w wc)
  case first =>
    have H := HC2.out
    clear HC2
    by_cases c3 : a0 < 0
    · rw [if_pos c3] at H
      have c3b0 : decide (a0 < 0) = true := decide_eq_true c3
      clear c3
      (first | rw [c3b0] | (simp only [i64_w, i32_w]; rw [c3b0]) | skip)
      have H' := Aside0.mk H
      clear H
      go_wp2
      go_meet
      case rel => exact ⟨_, (true), (by first | rfl | (simp; done) | (simp [*]; done)), H', ⟨by first | omega | exact Nat.le_refl _⟩, by repeat (first | exact Drawn0.refl _ | apply Drawn0.step)⟩
    · rw [if_neg c3] at H
      have c3b0 : decide (a0 < 0) = false := decide_eq_false c3
      clear c3
      (first | rw [c3b0] | (simp only [i64_w, i32_w]; rw [c3b0]) | skip)
      by_cases c4 : a0 > 1114111
      · rw [if_pos c4] at H
        have c4b0 : decide (1114111 < a0) = true := decide_eq_true c4
        clear c4
        have H' := Aside0.mk H
        clear H
        go_wp2
        go_meet
        case rel => exact ⟨_, (true), (by first | rfl | (simp; done) | (simp [*]; done)), H', ⟨by first | omega | exact Nat.le_refl _⟩, by repeat (first | exact Drawn0.refl _ | apply Drawn0.step)⟩
      · rw [if_neg c4] at H
        have c4b0 : decide (1114111 < a0) = false := decide_eq_false c4
        clear c4
        by_cases c5 : a0 ≤ 31
        · rw [if_pos c5] at H
          have c5b0 : decide (a0 ≤ 31) = true := decide_eq_true c5
          clear c5
          have H' := Aside0.mk H
          clear H
          go_wp2
          go_meet
          case rel => exact ⟨_, (true), (by first | rfl | (simp; done) | (simp [*]; done)), H', ⟨by first | omega | exact Nat.le_refl _⟩, by repeat (first | exact Drawn0.refl _ | apply Drawn0.step)⟩
        · rw [if_neg c5] at H
          have c5b0 : decide (a0 ≤ 31) = false := decide_eq_false c5
          clear c5
          by_cases c6 : a0 ≥ 127
          · rw [if_pos c6] at H
            have c6b0 : decide (127 ≤ a0) = true := decide_eq_true c6
            clear c6
            by_cases c7 : a0 ≤ 160
            · rw [if_pos c7] at H
              have c7b0 : decide (a0 ≤ 160) = true := decide_eq_true c7
              clear c7
              have H' := Aside0.mk H
              clear H
              go_wp2
              go_meet
              case rel => exact ⟨_, (true), (by first | rfl | (simp; done) | (simp [*]; done)), H', ⟨by first | omega | exact Nat.le_refl _⟩, by repeat (first | exact Drawn0.refl _ | apply Drawn0.step)⟩
            · rw [if_neg c7] at H
              have c7b0 : decide (a0 ≤ 160) = false := decide_eq_false c7
              clear c7
              by_cases c8 : a0 = 173
              · rw [if_pos c8] at H
                have c8b0 : (a0 == 173) = true := beq_iff_eq.mpr c8
                have c8b1 : (a0 != 173) = false := bne_eq_false_iff_eq.mpr c8
                clear c8
                have H' := Aside0.mk H
                clear H
                go_wp2
                go_meet
                case rel => exact ⟨_, (true), (by first | rfl | (simp; done) | (simp [*]; done)), H', ⟨by first | omega | exact Nat.le_refl _⟩, by repeat (first | exact Drawn0.refl _ | apply Drawn0.step)⟩
              · rw [if_neg c8] at H
                have c8b0 : (a0 == 173) = false := beq_eq_false_iff_ne.mpr c8
                have c8b1 : (a0 != 173) = true := bne_iff_ne.mpr c8
                have H' := Aside0.mk H
                clear H
                go_wp2
                go_meet
                case rel => exact ⟨_, ((a0 == 1564)), (by first | rfl | (simp; done) | (simp [*]; done)), H', ⟨by first | omega | exact Nat.le_refl _⟩, by repeat (first | exact Drawn0.refl _ | apply Drawn0.step)⟩
          · rw [if_neg c6] at H
            have c6b0 : decide (127 ≤ a0) = false := decide_eq_false c6
            clear c6
            by_cases c9 : a0 = 173
            · rw [if_pos c9] at H
              have c9b0 : (a0 == 173) = true := beq_iff_eq.mpr c9
              have c9b1 : (a0 != 173) = false := bne_eq_false_iff_eq.mpr c9
              clear c9
              have H' := Aside0.mk H
              clear H
              go_wp2
              go_meet
              case rel => exact ⟨_, (true), (by first | rfl | (simp; done) | (simp [*]; done)), H', ⟨by first | omega | exact Nat.le_refl _⟩, by repeat (first | exact Drawn0.refl _ | apply Drawn0.step)⟩
            · rw [if_neg c9] at H
              have c9b0 : (a0 == 173) = false := beq_eq_false_iff_ne.mpr c9
              have c9b1 : (a0 != 173) = true := bne_iff_ne.mpr c9
              have H' := Aside0.mk H
              clear H
              go_wp2
              go_meet
              case rel => exact ⟨_, ((a0 == 1564)), (by first | rfl | (simp; done) | (simp [*]; done)), H', ⟨by first | omega | exact Nat.le_refl _⟩, by repeat (first | exact Drawn0.refl _ | apply Drawn0.step)⟩
  case rest =>
    clear HC2
    try clear p2
    try clear c3
    try clear c3b0
    try clear c4
    try clear c4b0
    try clear c5
    try clear c5b0
    try clear c6
    try clear c6b0
    try clear c7
    try clear c7b0
    try clear c8
    try clear c8b0
    try clear c8b1
    try clear c9
    try clear c9b0
    try clear c9b1
    obtain ⟨kq, x28_1, rfl, HA, HJ1, ⟨mc1, rfl⟩⟩ := hcut
    cases kq with
    | zero => exact absurd HA.out (by simp [shardref1_Hidden.j0])
    | succ kj1 =>
      have H := HA.out
      clear HA
      simp only [shardref1_Hidden.j0] at H
      by_cases c10 : x28_1 = true
      · subst c10
        have H1 : (some true) = some r := by rw [if_pos rfl] at H; exact H
        clear H
        have H := H1
        clear H1
        obtain rfl := Option.some.inj H
        go_wp2
        go_ret
        exact ⟨by first | rfl | (simp; done) | (simp [*]; done), by repeat (first | exact Drawn0.refl _ | apply Drawn0.step)⟩
      · replace c10 := Bool.eq_false_iff.mpr c10
        subst c10
        have H1 : (if a0 = 5760 then (shardref1_Hidden.j1 kj1 a0 true) else (if a0 = 6158 then (shardref1_Hidden.j1 kj1 a0 true) else (if a0 ≥ 8192 then (if a0 ≤ 8207 then (shardref1_Hidden.j1 kj1 a0 true) else (if a0 ≥ 8232 then (shardref1_Hidden.j1 kj1 a0 (decide (a0 ≤ 8239))) else (shardref1_Hidden.j1 kj1 a0 false))) else (if a0 ≥ 8232 then (shardref1_Hidden.j1 kj1 a0 (decide (a0 ≤ 8239))) else (shardref1_Hidden.j1 kj1 a0 false))))) = some r := by rw [if_neg (show ¬ (false = true) by decide)] at H; exact H
        clear H
        have H := H1
        clear H1
        have HC11 := Aside0.mk H
        clear H
        go_upto_region 3 with (fail)
        go_cut [50] (fun v50 wc => ∃ (kq : Nat) (x50_10 : Bool), v50 = .bool x50_10 ∧ Aside0 (shardref1_Hidden.j1 kq a0 x50_10 = some r) ∧ Aside0 (kq ≤ kj1) ∧ Drawn0 w wc)
        case first =>
          have H := HC11.out
          clear HC11
          by_cases c12 : a0 = 5760
          · rw [if_pos c12] at H
            have c12b0 : (a0 == 5760) = true := beq_iff_eq.mpr c12
            have c12b1 : (a0 != 5760) = false := bne_eq_false_iff_eq.mpr c12
            clear c12
            (first | rw [c12b0] | (simp only [i64_w, i32_w]; rw [c12b0]) | skip)
            have H' := Aside0.mk H
            clear H
            go_wp2
            go_meet
            case rel => exact ⟨_, (true), (by first | rfl | (simp; done) | (simp [*]; done)), H', ⟨by have := HJ1.out; first | omega | exact Nat.le_refl _⟩, by repeat (first | exact Drawn0.refl _ | apply Drawn0.step)⟩
          · rw [if_neg c12] at H
            have c12b0 : (a0 == 5760) = false := beq_eq_false_iff_ne.mpr c12
            have c12b1 : (a0 != 5760) = true := bne_iff_ne.mpr c12
            (first | rw [c12b0] | (simp only [i64_w, i32_w]; rw [c12b0]) | skip)
            by_cases c13 : a0 = 6158
            · rw [if_pos c13] at H
              have c13b0 : (a0 == 6158) = true := beq_iff_eq.mpr c13
              have c13b1 : (a0 != 6158) = false := bne_eq_false_iff_eq.mpr c13
              clear c13
              have H' := Aside0.mk H
              clear H
              go_wp2
              go_meet
              case rel => exact ⟨_, (true), (by first | rfl | (simp; done) | (simp [*]; done)), H', ⟨by have := HJ1.out; first | omega | exact Nat.le_refl _⟩, by repeat (first | exact Drawn0.refl _ | apply Drawn0.step)⟩
            · rw [if_neg c13] at H
              have c13b0 : (a0 == 6158) = false := beq_eq_false_iff_ne.mpr c13
              have c13b1 : (a0 != 6158) = true := bne_iff_ne.mpr c13
              by_cases c14 : a0 ≥ 8192
              · rw [if_pos c14] at H
                have c14b0 : decide (8192 ≤ a0) = true := decide_eq_true c14
                clear c14
                by_cases c15 : a0 ≤ 8207
                · rw [if_pos c15] at H
                  have c15b0 : decide (a0 ≤ 8207) = true := decide_eq_true c15
                  clear c15
                  have H' := Aside0.mk H
                  clear H
                  go_wp2
                  go_meet
                  case rel => exact ⟨_, (true), (by first | rfl | (simp; done) | (simp [*]; done)), H', ⟨by have := HJ1.out; first | omega | exact Nat.le_refl _⟩, by repeat (first | exact Drawn0.refl _ | apply Drawn0.step)⟩
                · rw [if_neg c15] at H
                  have c15b0 : decide (a0 ≤ 8207) = false := decide_eq_false c15
                  clear c15
                  by_cases c16 : a0 ≥ 8232
                  · rw [if_pos c16] at H
                    have c16b0 : decide (8232 ≤ a0) = true := decide_eq_true c16
                    clear c16
                    have H' := Aside0.mk H
                    clear H
                    go_wp2
                    go_meet
                    case rel => exact ⟨_, (decide (a0 ≤ 8239)), (by first | rfl | (simp; done) | (simp [*]; done)), H', ⟨by have := HJ1.out; first | omega | exact Nat.le_refl _⟩, by repeat (first | exact Drawn0.refl _ | apply Drawn0.step)⟩
                  · rw [if_neg c16] at H
                    have c16b0 : decide (8232 ≤ a0) = false := decide_eq_false c16
                    clear c16
                    have H' := Aside0.mk H
                    clear H
                    go_wp2
                    go_meet
                    case rel => exact ⟨_, (false), (by first | rfl | (simp; done) | (simp [*]; done)), H', ⟨by have := HJ1.out; first | omega | exact Nat.le_refl _⟩, by repeat (first | exact Drawn0.refl _ | apply Drawn0.step)⟩
              · rw [if_neg c14] at H
                have c14b0 : decide (8192 ≤ a0) = false := decide_eq_false c14
                clear c14
                by_cases c17 : a0 ≥ 8232
                · rw [if_pos c17] at H
                  have c17b0 : decide (8232 ≤ a0) = true := decide_eq_true c17
                  clear c17
                  have H' := Aside0.mk H
                  clear H
                  go_wp2
                  go_meet
                  case rel => exact ⟨_, (decide (a0 ≤ 8239)), (by first | rfl | (simp; done) | (simp [*]; done)), H', ⟨by have := HJ1.out; first | omega | exact Nat.le_refl _⟩, by repeat (first | exact Drawn0.refl _ | apply Drawn0.step)⟩
                · rw [if_neg c17] at H
                  have c17b0 : decide (8232 ≤ a0) = false := decide_eq_false c17
                  clear c17
                  have H' := Aside0.mk H
                  clear H
                  go_wp2
                  go_meet
                  case rel => exact ⟨_, (false), (by first | rfl | (simp; done) | (simp [*]; done)), H', ⟨by have := HJ1.out; first | omega | exact Nat.le_refl _⟩, by repeat (first | exact Drawn0.refl _ | apply Drawn0.step)⟩
        case rest =>
          clear HC11
          try clear c1
          try clear p2
          try clear c3
          try clear c3b0
          try clear c4
          try clear c4b0
          try clear c5
          try clear c5b0
          try clear c6
          try clear c6b0
          try clear c7
          try clear c7b0
          try clear c8
          try clear c8b0
          try clear c8b1
          try clear c9
          try clear c9b0
          try clear c9b1
          try clear c10
          try clear c12
          try clear c12b0
          try clear c12b1
          try clear c13
          try clear c13b0
          try clear c13b1
          try clear c14
          try clear c14b0
          try clear c15
          try clear c15b0
          try clear c16
          try clear c16b0
          try clear c17
          try clear c17b0
          try clear p2
          obtain ⟨kq, x50_10, rfl, HA, HJ10, ⟨mc10, rfl⟩⟩ := hcut
          cases kq with
          | zero => exact absurd HA.out (by simp [shardref1_Hidden.j1])
          | succ kj10 =>
            have H := HA.out
            clear HA
            simp only [shardref1_Hidden.j1] at H
            by_cases c18 : x50_10 = true
            · subst c18
              have H1 : (some true) = some r := by rw [if_pos rfl] at H; exact H
              clear H
              have H := H1
              clear H1
              obtain rfl := Option.some.inj H
              go_wp2
              go_ret
              exact ⟨by first | rfl | (simp; done) | (simp [*]; done), by repeat (first | exact Drawn0.refl _ | apply Drawn0.step)⟩
            · replace c18 := Bool.eq_false_iff.mpr c18
              subst c18
              have H1 : (if a0 ≥ 8287 then (if a0 ≤ 8303 then (shardref1_Hidden.j2 kj10 a0 true) else (if a0 = 12288 then (shardref1_Hidden.j2 kj10 a0 true) else (if a0 ≥ 55296 then (if a0 ≤ 63743 then (shardref1_Hidden.j2 kj10 a0 true) else (if a0 ≥ 64976 then (shardref1_Hidden.j2 kj10 a0 (decide (a0 ≤ 65007))) else (shardref1_Hidden.j2 kj10 a0 false))) else (if a0 ≥ 64976 then (shardref1_Hidden.j2 kj10 a0 (decide (a0 ≤ 65007))) else (shardref1_Hidden.j2 kj10 a0 false))))) else (if a0 = 12288 then (shardref1_Hidden.j2 kj10 a0 true) else (if a0 ≥ 55296 then (if a0 ≤ 63743 then (shardref1_Hidden.j2 kj10 a0 true) else (if a0 ≥ 64976 then (shardref1_Hidden.j2 kj10 a0 (decide (a0 ≤ 65007))) else (shardref1_Hidden.j2 kj10 a0 false))) else (if a0 ≥ 64976 then (shardref1_Hidden.j2 kj10 a0 (decide (a0 ≤ 65007))) else (shardref1_Hidden.j2 kj10 a0 false))))) = some r := by rw [if_neg (show ¬ (false = true) by decide)] at H; exact H
              clear H
              have H := H1
              clear H1
              have HC19 := Aside0.mk H
              clear H
              go_upto_region 5 with (fail)
              go_cut [76] (fun v76 wc => ∃ (kq : Nat) (x76_18 : Bool), v76 = .bool x76_18 ∧ Aside0 (shardref1_Hidden.j2 kq a0 x76_18 = some r) ∧ Aside0 (kq ≤ kj10) ∧ Drawn0 w wc)
              case first =>
                have H := HC19.out
                clear HC19
                by_cases c20 : a0 ≥ 8287
                · rw [if_pos c20] at H
                  have c20b0 : decide (8287 ≤ a0) = true := decide_eq_true c20
                  clear c20
                  (first | rw [c20b0] | (simp only [i64_w, i32_w]; rw [c20b0]) | skip)
                  by_cases c21 : a0 ≤ 8303
                  · rw [if_pos c21] at H
                    have c21b0 : decide (a0 ≤ 8303) = true := decide_eq_true c21
                    clear c21
                    have H' := Aside0.mk H
                    clear H
                    go_wp2
                    go_meet
                    case rel => exact ⟨_, (true), (by first | rfl | (simp; done) | (simp [*]; done)), H', ⟨by have := HJ1.out; have := HJ10.out; first | omega | exact Nat.le_refl _⟩, by repeat (first | exact Drawn0.refl _ | apply Drawn0.step)⟩
                  · rw [if_neg c21] at H
                    have c21b0 : decide (a0 ≤ 8303) = false := decide_eq_false c21
                    clear c21
                    by_cases c22 : a0 = 12288
                    · rw [if_pos c22] at H
                      have c22b0 : (a0 == 12288) = true := beq_iff_eq.mpr c22
                      have c22b1 : (a0 != 12288) = false := bne_eq_false_iff_eq.mpr c22
                      clear c22
                      have H' := Aside0.mk H
                      clear H
                      go_wp2
                      go_meet
                      case rel => exact ⟨_, (true), (by first | rfl | (simp; done) | (simp [*]; done)), H', ⟨by have := HJ1.out; have := HJ10.out; first | omega | exact Nat.le_refl _⟩, by repeat (first | exact Drawn0.refl _ | apply Drawn0.step)⟩
                    · rw [if_neg c22] at H
                      have c22b0 : (a0 == 12288) = false := beq_eq_false_iff_ne.mpr c22
                      have c22b1 : (a0 != 12288) = true := bne_iff_ne.mpr c22
                      by_cases c23 : a0 ≥ 55296
                      · rw [if_pos c23] at H
                        have c23b0 : decide (55296 ≤ a0) = true := decide_eq_true c23
                        clear c23
                        by_cases c24 : a0 ≤ 63743
                        · rw [if_pos c24] at H
                          have c24b0 : decide (a0 ≤ 63743) = true := decide_eq_true c24
                          clear c24
                          have H' := Aside0.mk H
                          clear H
                          go_wp2
                          go_meet
                          case rel => exact ⟨_, (true), (by first | rfl | (simp; done) | (simp [*]; done)), H', ⟨by have := HJ1.out; have := HJ10.out; first | omega | exact Nat.le_refl _⟩, by repeat (first | exact Drawn0.refl _ | apply Drawn0.step)⟩
                        · rw [if_neg c24] at H
                          have c24b0 : decide (a0 ≤ 63743) = false := decide_eq_false c24
                          clear c24
                          by_cases c25 : a0 ≥ 64976
                          · rw [if_pos c25] at H
                            have c25b0 : decide (64976 ≤ a0) = true := decide_eq_true c25
                            clear c25
                            have H' := Aside0.mk H
                            clear H
                            go_wp2
                            go_meet
                            case rel => exact ⟨_, (decide (a0 ≤ 65007)), (by first | rfl | (simp; done) | (simp [*]; done)), H', ⟨by have := HJ1.out; have := HJ10.out; first | omega | exact Nat.le_refl _⟩, by repeat (first | exact Drawn0.refl _ | apply Drawn0.step)⟩
                          · rw [if_neg c25] at H
                            have c25b0 : decide (64976 ≤ a0) = false := decide_eq_false c25
                            clear c25
                            have H' := Aside0.mk H
                            clear H
                            go_wp2
                            go_meet
                            case rel => exact ⟨_, (false), (by first | rfl | (simp; done) | (simp [*]; done)), H', ⟨by have := HJ1.out; have := HJ10.out; first | omega | exact Nat.le_refl _⟩, by repeat (first | exact Drawn0.refl _ | apply Drawn0.step)⟩
                      · rw [if_neg c23] at H
                        have c23b0 : decide (55296 ≤ a0) = false := decide_eq_false c23
                        clear c23
                        by_cases c26 : a0 ≥ 64976
                        · rw [if_pos c26] at H
                          have c26b0 : decide (64976 ≤ a0) = true := decide_eq_true c26
                          clear c26
                          have H' := Aside0.mk H
                          clear H
                          go_wp2
                          go_meet
                          case rel => exact ⟨_, (decide (a0 ≤ 65007)), (by first | rfl | (simp; done) | (simp [*]; done)), H', ⟨by have := HJ1.out; have := HJ10.out; first | omega | exact Nat.le_refl _⟩, by repeat (first | exact Drawn0.refl _ | apply Drawn0.step)⟩
                        · rw [if_neg c26] at H
                          have c26b0 : decide (64976 ≤ a0) = false := decide_eq_false c26
                          clear c26
                          have H' := Aside0.mk H
                          clear H
                          go_wp2
                          go_meet
                          case rel => exact ⟨_, (false), (by first | rfl | (simp; done) | (simp [*]; done)), H', ⟨by have := HJ1.out; have := HJ10.out; first | omega | exact Nat.le_refl _⟩, by repeat (first | exact Drawn0.refl _ | apply Drawn0.step)⟩
                · rw [if_neg c20] at H
                  have c20b0 : decide (8287 ≤ a0) = false := decide_eq_false c20
                  clear c20
                  (first | rw [c20b0] | (simp only [i64_w, i32_w]; rw [c20b0]) | skip)
                  by_cases c27 : a0 = 12288
                  · rw [if_pos c27] at H
                    have c27b0 : (a0 == 12288) = true := beq_iff_eq.mpr c27
                    have c27b1 : (a0 != 12288) = false := bne_eq_false_iff_eq.mpr c27
                    clear c27
                    have H' := Aside0.mk H
                    clear H
                    go_wp2
                    go_meet
                    case rel => exact ⟨_, (true), (by first | rfl | (simp; done) | (simp [*]; done)), H', ⟨by have := HJ1.out; have := HJ10.out; first | omega | exact Nat.le_refl _⟩, by repeat (first | exact Drawn0.refl _ | apply Drawn0.step)⟩
                  · rw [if_neg c27] at H
                    have c27b0 : (a0 == 12288) = false := beq_eq_false_iff_ne.mpr c27
                    have c27b1 : (a0 != 12288) = true := bne_iff_ne.mpr c27
                    by_cases c28 : a0 ≥ 55296
                    · rw [if_pos c28] at H
                      have c28b0 : decide (55296 ≤ a0) = true := decide_eq_true c28
                      clear c28
                      by_cases c29 : a0 ≤ 63743
                      · rw [if_pos c29] at H
                        have c29b0 : decide (a0 ≤ 63743) = true := decide_eq_true c29
                        clear c29
                        have H' := Aside0.mk H
                        clear H
                        go_wp2
                        go_meet
                        case rel => exact ⟨_, (true), (by first | rfl | (simp; done) | (simp [*]; done)), H', ⟨by have := HJ1.out; have := HJ10.out; first | omega | exact Nat.le_refl _⟩, by repeat (first | exact Drawn0.refl _ | apply Drawn0.step)⟩
                      · rw [if_neg c29] at H
                        have c29b0 : decide (a0 ≤ 63743) = false := decide_eq_false c29
                        clear c29
                        by_cases c30 : a0 ≥ 64976
                        · rw [if_pos c30] at H
                          have c30b0 : decide (64976 ≤ a0) = true := decide_eq_true c30
                          clear c30
                          have H' := Aside0.mk H
                          clear H
                          go_wp2
                          go_meet
                          case rel => exact ⟨_, (decide (a0 ≤ 65007)), (by first | rfl | (simp; done) | (simp [*]; done)), H', ⟨by have := HJ1.out; have := HJ10.out; first | omega | exact Nat.le_refl _⟩, by repeat (first | exact Drawn0.refl _ | apply Drawn0.step)⟩
                        · rw [if_neg c30] at H
                          have c30b0 : decide (64976 ≤ a0) = false := decide_eq_false c30
                          clear c30
                          have H' := Aside0.mk H
                          clear H
                          go_wp2
                          go_meet
                          case rel => exact ⟨_, (false), (by first | rfl | (simp; done) | (simp [*]; done)), H', ⟨by have := HJ1.out; have := HJ10.out; first | omega | exact Nat.le_refl _⟩, by repeat (first | exact Drawn0.refl _ | apply Drawn0.step)⟩
                    · rw [if_neg c28] at H
                      have c28b0 : decide (55296 ≤ a0) = false := decide_eq_false c28
                      clear c28
                      by_cases c31 : a0 ≥ 64976
                      · rw [if_pos c31] at H
                        have c31b0 : decide (64976 ≤ a0) = true := decide_eq_true c31
                        clear c31
                        have H' := Aside0.mk H
                        clear H
                        go_wp2
                        go_meet
                        case rel => exact ⟨_, (decide (a0 ≤ 65007)), (by first | rfl | (simp; done) | (simp [*]; done)), H', ⟨by have := HJ1.out; have := HJ10.out; first | omega | exact Nat.le_refl _⟩, by repeat (first | exact Drawn0.refl _ | apply Drawn0.step)⟩
                      · rw [if_neg c31] at H
                        have c31b0 : decide (64976 ≤ a0) = false := decide_eq_false c31
                        clear c31
                        have H' := Aside0.mk H
                        clear H
                        go_wp2
                        go_meet
                        case rel => exact ⟨_, (false), (by first | rfl | (simp; done) | (simp [*]; done)), H', ⟨by have := HJ1.out; have := HJ10.out; first | omega | exact Nat.le_refl _⟩, by repeat (first | exact Drawn0.refl _ | apply Drawn0.step)⟩
              case rest =>
                clear HC19
                try clear c1
                try clear c2
                try clear p2
                try clear c3
                try clear c3b0
                try clear c4
                try clear c4b0
                try clear c5
                try clear c5b0
                try clear c6
                try clear c6b0
                try clear c7
                try clear c7b0
                try clear c8
                try clear c8b0
                try clear c8b1
                try clear c9
                try clear c9b0
                try clear c9b1
                try clear c10
                try clear c12
                try clear c12b0
                try clear c12b1
                try clear c13
                try clear c13b0
                try clear c13b1
                try clear c14
                try clear c14b0
                try clear c15
                try clear c15b0
                try clear c16
                try clear c16b0
                try clear c17
                try clear c17b0
                try clear c18
                try clear c20
                try clear c20b0
                try clear c21
                try clear c21b0
                try clear c22
                try clear c22b0
                try clear c22b1
                try clear c23
                try clear c23b0
                try clear c24
                try clear c24b0
                try clear c25
                try clear c25b0
                try clear c26
                try clear c26b0
                try clear c27
                try clear c27b0
                try clear c27b1
                try clear c28
                try clear c28b0
                try clear c29
                try clear c29b0
                try clear c30
                try clear c30b0
                try clear c31
                try clear c31b0
                try clear p2
                obtain ⟨kq, x76_18, rfl, HA, HJ18, ⟨mc18, rfl⟩⟩ := hcut
                cases kq with
                | zero => exact absurd HA.out (by simp [shardref1_Hidden.j2])
                | succ kj18 =>
                  have H := HA.out
                  clear HA
                  simp only [shardref1_Hidden.j2] at H
                  by_cases c32 : x76_18 = true
                  · subst c32
                    have H1 : (some true) = some r := by rw [if_pos rfl] at H; exact H
                    clear H
                    have H := H1
                    clear H1
                    obtain rfl := Option.some.inj H
                    go_wp2
                    go_ret
                    exact ⟨by first | rfl | (simp; done) | (simp [*]; done), by repeat (first | exact Drawn0.refl _ | apply Drawn0.step)⟩
                  · replace c32 := Bool.eq_false_iff.mpr c32
                    subst c32
                    have H1 : (if a0 = 65279 then (some true) else (if a0 ≥ 65529 then (if a0 ≤ 65531 then (some true) else (if a0 = 65534 then (some true) else (if a0 = 65535 then (some true) else (if a0 ≥ 917504 then (some true) else (some (decide ((Int.tmod a0 65536) ≥ 65534))))))) else (if a0 = 65534 then (some true) else (if a0 = 65535 then (some true) else (if a0 ≥ 917504 then (some true) else (some (decide ((Int.tmod a0 65536) ≥ 65534)))))))) = some r := by rw [if_neg (show ¬ (false = true) by decide)] at H; exact H
                    clear H
                    have H := H1
                    clear H1
                    by_cases c33 : a0 = 65279
                    · rw [if_pos c33] at H
                      have c33b0 : (a0 == 65279) = true := beq_iff_eq.mpr c33
                      have c33b1 : (a0 != 65279) = false := bne_eq_false_iff_eq.mpr c33
                      clear c33
                      obtain rfl := Option.some.inj H
                      go_wp2
                      go_ret
                      exact ⟨by first | rfl | (simp; done) | (simp [*]; done), by repeat (first | exact Drawn0.refl _ | apply Drawn0.step)⟩
                    · rw [if_neg c33] at H
                      have c33b0 : (a0 == 65279) = false := beq_eq_false_iff_ne.mpr c33
                      have c33b1 : (a0 != 65279) = true := bne_iff_ne.mpr c33
                      by_cases c34 : a0 ≥ 65529
                      · rw [if_pos c34] at H
                        have c34b0 : decide (65529 ≤ a0) = true := decide_eq_true c34
                        clear c34
                        by_cases c35 : a0 ≤ 65531
                        · rw [if_pos c35] at H
                          have c35b0 : decide (a0 ≤ 65531) = true := decide_eq_true c35
                          clear c35
                          obtain rfl := Option.some.inj H
                          go_wp2
                          go_ret
                          exact ⟨by first | rfl | (simp; done) | (simp [*]; done), by repeat (first | exact Drawn0.refl _ | apply Drawn0.step)⟩
                        · rw [if_neg c35] at H
                          have c35b0 : decide (a0 ≤ 65531) = false := decide_eq_false c35
                          clear c35
                          by_cases c36 : a0 = 65534
                          · rw [if_pos c36] at H
                            have c36b0 : (a0 == 65534) = true := beq_iff_eq.mpr c36
                            have c36b1 : (a0 != 65534) = false := bne_eq_false_iff_eq.mpr c36
                            clear c36
                            obtain rfl := Option.some.inj H
                            go_wp2
                            go_ret
                            exact ⟨by first | rfl | (simp; done) | (simp [*]; done), by repeat (first | exact Drawn0.refl _ | apply Drawn0.step)⟩
                          · rw [if_neg c36] at H
                            have c36b0 : (a0 == 65534) = false := beq_eq_false_iff_ne.mpr c36
                            have c36b1 : (a0 != 65534) = true := bne_iff_ne.mpr c36
                            by_cases c37 : a0 = 65535
                            · rw [if_pos c37] at H
                              have c37b0 : (a0 == 65535) = true := beq_iff_eq.mpr c37
                              have c37b1 : (a0 != 65535) = false := bne_eq_false_iff_eq.mpr c37
                              clear c37
                              obtain rfl := Option.some.inj H
                              go_wp2
                              go_ret
                              exact ⟨by first | rfl | (simp; done) | (simp [*]; done), by repeat (first | exact Drawn0.refl _ | apply Drawn0.step)⟩
                            · rw [if_neg c37] at H
                              have c37b0 : (a0 == 65535) = false := beq_eq_false_iff_ne.mpr c37
                              have c37b1 : (a0 != 65535) = true := bne_iff_ne.mpr c37
                              by_cases c38 : a0 ≥ 917504
                              · rw [if_pos c38] at H
                                have c38b0 : decide (917504 ≤ a0) = true := decide_eq_true c38
                                clear c38
                                obtain rfl := Option.some.inj H
                                go_wp2
                                go_ret
                                exact ⟨by first | rfl | (simp; done) | (simp [*]; done), by repeat (first | exact Drawn0.refl _ | apply Drawn0.step)⟩
                              · rw [if_neg c38] at H
                                have c38b0 : decide (917504 ≤ a0) = false := decide_eq_false c38
                                clear c38
                                obtain rfl := Option.some.inj H
                                go_wp2
                                go_ret
                                exact ⟨by first | rfl | (simp; done) | (simp [*]; done), by repeat (first | exact Drawn0.refl _ | apply Drawn0.step)⟩
                      · rw [if_neg c34] at H
                        have c34b0 : decide (65529 ≤ a0) = false := decide_eq_false c34
                        clear c34
                        by_cases c39 : a0 = 65534
                        · rw [if_pos c39] at H
                          have c39b0 : (a0 == 65534) = true := beq_iff_eq.mpr c39
                          have c39b1 : (a0 != 65534) = false := bne_eq_false_iff_eq.mpr c39
                          clear c39
                          obtain rfl := Option.some.inj H
                          go_wp2
                          go_ret
                          exact ⟨by first | rfl | (simp; done) | (simp [*]; done), by repeat (first | exact Drawn0.refl _ | apply Drawn0.step)⟩
                        · rw [if_neg c39] at H
                          have c39b0 : (a0 == 65534) = false := beq_eq_false_iff_ne.mpr c39
                          have c39b1 : (a0 != 65534) = true := bne_iff_ne.mpr c39
                          by_cases c40 : a0 = 65535
                          · rw [if_pos c40] at H
                            have c40b0 : (a0 == 65535) = true := beq_iff_eq.mpr c40
                            have c40b1 : (a0 != 65535) = false := bne_eq_false_iff_eq.mpr c40
                            clear c40
                            obtain rfl := Option.some.inj H
                            go_wp2
                            go_ret
                            exact ⟨by first | rfl | (simp; done) | (simp [*]; done), by repeat (first | exact Drawn0.refl _ | apply Drawn0.step)⟩
                          · rw [if_neg c40] at H
                            have c40b0 : (a0 == 65535) = false := beq_eq_false_iff_ne.mpr c40
                            have c40b1 : (a0 != 65535) = true := bne_iff_ne.mpr c40
                            by_cases c41 : a0 ≥ 917504
                            · rw [if_pos c41] at H
                              have c41b0 : decide (917504 ≤ a0) = true := decide_eq_true c41
                              clear c41
                              obtain rfl := Option.some.inj H
                              go_wp2
                              go_ret
                              exact ⟨by first | rfl | (simp; done) | (simp [*]; done), by repeat (first | exact Drawn0.refl _ | apply Drawn0.step)⟩
                            · rw [if_neg c41] at H
                              have c41b0 : decide (917504 ≤ a0) = false := decide_eq_false c41
                              clear c41
                              obtain rfl := Option.some.inj H
                              go_wp2
                              go_ret
                              exact ⟨by first | rfl | (simp; done) | (simp [*]; done), by repeat (first | exact Drawn0.refl _ | apply Drawn0.step)⟩

end Go.Proofs.Ytghhpgpcbnkamaa.P
