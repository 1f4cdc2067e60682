-- Written by printx.py (this work's driver over the kit's print) out of the translation; Lean checks it.
import Derived.Test.YtipgpcpolobjiaaDoorPx0
import Derived.Test.YtipgpcpolobjiaaDoorPx1
namespace Go.Proofs.YtipgpcpolobjiaaDoor.P
open Go.RowKit Go.Proofs.YtipgpcpolobjiaaDoorW.PrintWords Go.Proofs.YtipgpcpolobjiaaDoorW.PrintLast Go.Proofs.YtipgpcpolobjiaaDoorW.PrintMore
attribute [local go_sem] max2_int min2_int max_two min_two max_three min_three max_four min_four   -- for this text's walks alone
set_option linter.unusedVariables false
set_option linter.unusedSimpArgs false

/-! ### wire_Allowed: function 5 -/
mutual
def wire_Allowed.j0 : Nat → Int → Int → Int → Int → Int → Bool → Option (Bool)
  | 0, _, _, _, _, _, _ => none
  | k + 1, x0, x1, x7, x8, x13, x14 => if x14 = true then (if x7 = 2 then (some (x8 == 1)) else (some false)) else (if x13 = 6 then (wire_Allowed.j1 k x0 x1 x7 x8 x13 (x13 == 6)) else (wire_Allowed.j1 k x0 x1 x7 x8 x13 (x13 == 7)))
def wire_Allowed.j1 : Nat → Int → Int → Int → Int → Int → Bool → Option (Bool)
  | 0, _, _, _, _, _, _ => none
  | k + 1, x0, x1, x7, x8, x13, x26 => if x26 = true then (if x7 = 1 then (some (x8 == 2)) else (some false)) else (if x13 = 8 then (if x7 = 3 then (some (x8 == 1)) else (some false)) else (if x13 = 9 then (if x7 = 1 then (some (x8 == 3)) else (some false)) else (if x13 = 10 then (if x7 = 1 then (if x8 = 1 then (some (x0 != x1)) else (some false)) else (some false)) else (if x13 = 11 then (if x7 = 1 then (if x8 = 1 then (some (x0 != x1)) else (some false)) else (some false)) else (some false)))))
end
def wire_Allowed.f (k : Nat) (a0 : Int) (a1 : Int) (a2 : Int) : Option (Bool) := (wire_RoleOf.f a0).bind fun t101 => ((wire_RoleOf.f a1).bind fun t102 => (if a2 = 1 then (wire_Allowed.j0 k a0 a1 t101 t102 a2 (a2 == 1)) else (if a2 = 2 then (wire_Allowed.j0 k a0 a1 t101 t102 a2 (a2 == 2)) else (if a2 = 3 then (wire_Allowed.j0 k a0 a1 t101 t102 a2 (a2 == 3)) else (if a2 = 4 then (wire_Allowed.j0 k a0 a1 t101 t102 a2 (a2 == 4)) else (wire_Allowed.j0 k a0 a1 t101 t102 a2 (a2 == 5)))))))
theorem wire_Allowed.mono_l : ∀ k, (∀ y0 y1 y2 y3 y4 y5, LeO (wire_Allowed.j0 k y0 y1 y2 y3 y4 y5) (wire_Allowed.j0 (k + 1) y0 y1 y2 y3 y4 y5)) ∧ (∀ y0 y1 y2 y3 y4 y5, LeO (wire_Allowed.j1 k y0 y1 y2 y3 y4 y5) (wire_Allowed.j1 (k + 1) y0 y1 y2 y3 y4 y5))
  | 0 => ⟨fun _ _ _ _ _ _ r h => by simp [wire_Allowed.j0] at h, fun _ _ _ _ _ _ r h => by simp [wire_Allowed.j1] at h⟩
  | k + 1 => by
    obtain ⟨ih0, ih1⟩ := wire_Allowed.mono_l k
    refine ⟨?_, ?_⟩
    · intro y0 y1 y2 y3 y4 y5
      unfold wire_Allowed.j0
      repeat' first
      | (with_reducible exact ih0 _ _ _ _ _ _)
      | (with_reducible exact ih1 _ _ _ _ _ _)
      | (with_reducible exact LeO.refl _)
      | (with_reducible exact LeO.none _)
      | (with_reducible refine LeO.ite ?_ ?_)
      | (with_reducible refine LeO.bind ?_ (fun _ => ?_))
      | exact ih0 _ _ _ _ _ _
      | exact ih1 _ _ _ _ _ _
      | exact LeO.none _
      | refine LeO.ite ?_ ?_
      | refine LeO.bind ?_ (fun _ => ?_)
    · intro y0 y1 y2 y3 y4 y5
      unfold wire_Allowed.j1
      repeat' first
      | (with_reducible exact ih0 _ _ _ _ _ _)
      | (with_reducible exact ih1 _ _ _ _ _ _)
      | (with_reducible exact LeO.refl _)
      | (with_reducible exact LeO.none _)
      | (with_reducible refine LeO.ite ?_ ?_)
      | (with_reducible refine LeO.bind ?_ (fun _ => ?_))
      | exact ih0 _ _ _ _ _ _
      | exact ih1 _ _ _ _ _ _
      | exact LeO.none _
      | refine LeO.ite ?_ ?_
      | refine LeO.bind ?_ (fun _ => ?_)
theorem wire_Allowed.mono : ∀ a0 a1 a2 k, LeO (wire_Allowed.f k a0 a1 a2) (wire_Allowed.f (k + 1) a0 a1 a2) := by
  intro a0 a1 a2 k
  obtain ⟨ih0, ih1⟩ := wire_Allowed.mono_l k
  unfold wire_Allowed.f
  repeat' first
      | (with_reducible exact ih0 _ _ _ _ _ _)
      | (with_reducible exact ih1 _ _ _ _ _ _)
      | (with_reducible exact LeO.refl _)
      | (with_reducible exact LeO.none _)
      | (with_reducible refine LeO.ite ?_ ?_)
      | (with_reducible refine LeO.bind ?_ (fun _ => ?_))
      | exact ih0 _ _ _ _ _ _
      | exact ih1 _ _ _ _ _ _
      | exact LeO.none _
      | refine LeO.ite ?_ ?_
      | refine LeO.bind ?_ (fun _ => ?_)
set_option maxHeartbeats 8000000 in
set_option maxRecDepth 100000 in
theorem wire_Allowed.calls (k : Nat) (a0 : Int) (a1 : Int) (a2 : Int) (r : Bool) (w : World) (h : wire_Allowed.f k a0 a1 a2 = some r) :
    Calls Tryd.prog 5 #[.int .u8 a0, .int .u8 a1, .int .u8 a2] w fun e w' => e = .returned (.bool r) ∧ Drawn0 w w' := by
  have H : ((wire_RoleOf.f a0).bind fun t101 => ((wire_RoleOf.f a1).bind fun t102 => (if a2 = 1 then (wire_Allowed.j0 k a0 a1 t101 t102 a2 (a2 == 1)) else (if a2 = 2 then (wire_Allowed.j0 k a0 a1 t101 t102 a2 (a2 == 2)) else (if a2 = 3 then (wire_Allowed.j0 k a0 a1 t101 t102 a2 (a2 == 3)) else (if a2 = 4 then (wire_Allowed.j0 k a0 a1 t101 t102 a2 (a2 == 4)) else (wire_Allowed.j0 k a0 a1 t101 t102 a2 (a2 == 5)))))))) = some r := h
  clear h
  replace H := Option.bind_eq_some_iff.mp H
  obtain ⟨t101, A40, H⟩ := H
  replace H : ((wire_RoleOf.f a1).bind fun t102 => (if a2 = 1 then (wire_Allowed.j0 k a0 a1 t101 t102 a2 (a2 == 1)) else (if a2 = 2 then (wire_Allowed.j0 k a0 a1 t101 t102 a2 (a2 == 2)) else (if a2 = 3 then (wire_Allowed.j0 k a0 a1 t101 t102 a2 (a2 == 3)) else (if a2 = 4 then (wire_Allowed.j0 k a0 a1 t101 t102 a2 (a2 == 4)) else (wire_Allowed.j0 k a0 a1 t101 t102 a2 (a2 == 5))))))) = some r := H
  have A4 := Aside0.mk A40
  clear A40
  replace H := Option.bind_eq_some_iff.mp H
  obtain ⟨t102, A50, H⟩ := H
  replace H : (if a2 = 1 then (wire_Allowed.j0 k a0 a1 t101 t102 a2 (a2 == 1)) else (if a2 = 2 then (wire_Allowed.j0 k a0 a1 t101 t102 a2 (a2 == 2)) else (if a2 = 3 then (wire_Allowed.j0 k a0 a1 t101 t102 a2 (a2 == 3)) else (if a2 = 4 then (wire_Allowed.j0 k a0 a1 t101 t102 a2 (a2 == 4)) else (wire_Allowed.j0 k a0 a1 t101 t102 a2 (a2 == 5)))))) = some r := H
  have A5 := Aside0.mk A50
  clear A50
  have HC6 := Aside0.mk H
  clear H
  go_enter Tryd.func5, Tryd.ntmps5
  go_upto_if 14 with (first | ((with_reducible refine gate_callee (f := 4) rfl ?_); refine goesL_ (some 10) rfl rfl Tryd.func4 (by kernel_rfl) rfl #[.int .u8 a0] rfl (by (try simp only [List.map_toArray, List.map_cons, List.map_nil]); first | done | rfl | (simp only [List.length_drop, List.length_take]; rfl)) ?_; (with_reducible refine (wire_RoleOf.calls a0 t101 _ A4.out).mono ?_); rintro e w' ⟨rfl, ⟨nd, rfl⟩⟩; refine ⟨_, rfl, ?_⟩) | ((with_reducible refine gate_callee (f := 4) rfl ?_); refine goesL_ (some 12) rfl rfl Tryd.func4 (by kernel_rfl) rfl #[.int .u8 a1] rfl (by (try simp only [List.map_toArray, List.map_cons, List.map_nil]); first | done | rfl | (simp only [List.length_drop, List.length_take]; rfl)) ?_; (with_reducible refine (wire_RoleOf.calls a1 t102 _ A5.out).mono ?_); rintro e w' ⟨rfl, ⟨nd, rfl⟩⟩; refine ⟨_, rfl, ?_⟩))
  (try simp only [Act.put, List.setIfInBounds_toArray, List.set_cons_zero, List.set_cons_succ])
  go_cut [14] (fun v14 wc => ∃ (kq : Nat) (x14_5 : Bool), v14 = .bool x14_5 ∧ Aside0 (wire_Allowed.j0 kq a0 a1 t101 t102 a2 x14_5 = some r) ∧ Aside0 (kq ≤ k) ∧ Drawn0 w wc)
  case first =>
    have H := HC6.out
    clear HC6
    by_cases c7 : a2 = 1
    · rw [if_pos c7] at H
      have c7b0 : (a2 == 1) = true := beq_iff_eq.mpr c7
      have c7b1 : (a2 != 1) = false := bne_eq_false_iff_eq.mpr c7
      clear c7
      (first | rw [c7b0] | (simp only [i64_w, i32_w]; rw [c7b0]) | skip)
      have H' := Aside0.mk H
      clear H
      go_wp2
      go_meet
      case rel => exact ⟨_, ((a2 == 1)), (by first | rfl | (simp; done) | (simp [*]; done)), H', ⟨by first | omega | exact Nat.le_refl _⟩, by repeat (first | exact Drawn0.refl _ | apply Drawn0.step)⟩
    · rw [if_neg c7] at H
      have c7b0 : (a2 == 1) = false := beq_eq_false_iff_ne.mpr c7
      have c7b1 : (a2 != 1) = true := bne_iff_ne.mpr c7
      (first | rw [c7b0] | (simp only [i64_w, i32_w]; rw [c7b0]) | skip)
      by_cases c8 : a2 = 2
      · rw [if_pos c8] at H
        have c8b0 : (a2 == 2) = true := beq_iff_eq.mpr c8
        have c8b1 : (a2 != 2) = false := bne_eq_false_iff_eq.mpr c8
        clear c8
        have H' := Aside0.mk H
        clear H
        go_wp2
        go_meet
        case rel => exact ⟨_, ((a2 == 2)), (by first | rfl | (simp; done) | (simp [*]; done)), H', ⟨by first | omega | exact Nat.le_refl _⟩, by repeat (first | exact Drawn0.refl _ | apply Drawn0.step)⟩
      · rw [if_neg c8] at H
        have c8b0 : (a2 == 2) = false := beq_eq_false_iff_ne.mpr c8
        have c8b1 : (a2 != 2) = true := bne_iff_ne.mpr c8
        by_cases c9 : a2 = 3
        · rw [if_pos c9] at H
          have c9b0 : (a2 == 3) = true := beq_iff_eq.mpr c9
          have c9b1 : (a2 != 3) = false := bne_eq_false_iff_eq.mpr c9
          clear c9
          have H' := Aside0.mk H
          clear H
          go_wp2
          go_meet
          case rel => exact ⟨_, ((a2 == 3)), (by first | rfl | (simp; done) | (simp [*]; done)), H', ⟨by first | omega | exact Nat.le_refl _⟩, by repeat (first | exact Drawn0.refl _ | apply Drawn0.step)⟩
        · rw [if_neg c9] at H
          have c9b0 : (a2 == 3) = false := beq_eq_false_iff_ne.mpr c9
          have c9b1 : (a2 != 3) = true := bne_iff_ne.mpr c9
          by_cases c10 : a2 = 4
          · rw [if_pos c10] at H
            have c10b0 : (a2 == 4) = true := beq_iff_eq.mpr c10
            have c10b1 : (a2 != 4) = false := bne_eq_false_iff_eq.mpr c10
            clear c10
            have H' := Aside0.mk H
            clear H
            go_wp2
            go_meet
            case rel => exact ⟨_, ((a2 == 4)), (by first | rfl | (simp; done) | (simp [*]; done)), H', ⟨by first | omega | exact Nat.le_refl _⟩, by repeat (first | exact Drawn0.refl _ | apply Drawn0.step)⟩
          · rw [if_neg c10] at H
            have c10b0 : (a2 == 4) = false := beq_eq_false_iff_ne.mpr c10
            have c10b1 : (a2 != 4) = true := bne_iff_ne.mpr c10
            have H' := Aside0.mk H
            clear H
            go_wp2
            go_meet
            case rel => exact ⟨_, ((a2 == 5)), (by first | rfl | (simp; done) | (simp [*]; done)), H', ⟨by first | omega | exact Nat.le_refl _⟩, by repeat (first | exact Drawn0.refl _ | apply Drawn0.step)⟩
  case rest =>
    clear HC6
    try clear c1
    try clear p2
    try clear c4
    try clear c5
    try clear c7
    try clear c7b0
    try clear c7b1
    try clear c8
    try clear c8b0
    try clear c8b1
    try clear c9
    try clear c9b0
    try clear c9b1
    try clear c10
    try clear c10b0
    try clear c10b1
    obtain ⟨kq, x14_5, rfl, HA, HJ5, ⟨mc5, rfl⟩⟩ := hcut
    cases kq with
    | zero => exact absurd HA.out (by simp [wire_Allowed.j0])
    | succ kj5 =>
      have H := HA.out
      clear HA
      simp only [wire_Allowed.j0] at H
      by_cases c11 : x14_5 = true
      · subst c11
        have H1 : (if t101 = 2 then (some (t102 == 1)) else (some false)) = some r := by rw [if_pos rfl] at H; exact H
        clear H
        have H := H1
        clear H1
        by_cases c12 : t101 = 2
        · rw [if_pos c12] at H
          have c12b0 : (t101 == 2) = true := beq_iff_eq.mpr c12
          have c12b1 : (t101 != 2) = false := bne_eq_false_iff_eq.mpr c12
          clear c12
          obtain rfl := Option.some.inj H
          go_wp2
          go_ret
          exact ⟨by first | rfl | (simp; done) | (simp [*]; done), by repeat (first | exact Drawn0.refl _ | apply Drawn0.step)⟩
        · rw [if_neg c12] at H
          have c12b0 : (t101 == 2) = false := beq_eq_false_iff_ne.mpr c12
          have c12b1 : (t101 != 2) = true := bne_iff_ne.mpr c12
          obtain rfl := Option.some.inj H
          go_wp2
          go_ret
          exact ⟨by first | rfl | (simp; done) | (simp [*]; done), by repeat (first | exact Drawn0.refl _ | apply Drawn0.step)⟩
      · replace c11 := Bool.eq_false_iff.mpr c11
        subst c11
        have H1 : (if a2 = 6 then (wire_Allowed.j1 kj5 a0 a1 t101 t102 a2 (a2 == 6)) else (wire_Allowed.j1 kj5 a0 a1 t101 t102 a2 (a2 == 7))) = some r := by rw [if_neg (show ¬ (false = true) by decide)] at H; exact H
        clear H
        have H := H1
        clear H1
        have HC13 := Aside0.mk H
        clear H
        go_upto_if 26 with (fail)
        go_cut [26] (fun v26 wc => ∃ (kq : Nat) (x26_12 : Bool), v26 = .bool x26_12 ∧ Aside0 (wire_Allowed.j1 kq a0 a1 t101 t102 a2 x26_12 = some r) ∧ Aside0 (kq ≤ kj5) ∧ Drawn0 w wc)
        case first =>
          have H := HC13.out
          clear HC13
          by_cases c14 : a2 = 6
          · rw [if_pos c14] at H
            have c14b0 : (a2 == 6) = true := beq_iff_eq.mpr c14
            have c14b1 : (a2 != 6) = false := bne_eq_false_iff_eq.mpr c14
            clear c14
            (first | rw [c14b0] | (simp only [i64_w, i32_w]; rw [c14b0]) | skip)
            have H' := Aside0.mk H
            clear H
            go_wp2
            go_meet
            case rel => exact ⟨_, ((a2 == 6)), (by first | rfl | (simp; done) | (simp [*]; done)), H', ⟨by have := HJ5.out; first | omega | exact Nat.le_refl _⟩, by repeat (first | exact Drawn0.refl _ | apply Drawn0.step)⟩
          · rw [if_neg c14] at H
            have c14b0 : (a2 == 6) = false := beq_eq_false_iff_ne.mpr c14
            have c14b1 : (a2 != 6) = true := bne_iff_ne.mpr c14
            (first | rw [c14b0] | (simp only [i64_w, i32_w]; rw [c14b0]) | skip)
            have H' := Aside0.mk H
            clear H
            go_wp2
            go_meet
            case rel => exact ⟨_, ((a2 == 7)), (by first | rfl | (simp; done) | (simp [*]; done)), H', ⟨by have := HJ5.out; first | omega | exact Nat.le_refl _⟩, by repeat (first | exact Drawn0.refl _ | apply Drawn0.step)⟩
        case rest =>
          clear HC13
          try clear c1
          try clear p2
          try clear c4
          try clear c5
          try clear c7
          try clear c7b0
          try clear c7b1
          try clear c8
          try clear c8b0
          try clear c8b1
          try clear c9
          try clear c9b0
          try clear c9b1
          try clear c10
          try clear c10b0
          try clear c10b1
          try clear c11
          try clear c12
          try clear c12b0
          try clear c12b1
          try clear c14
          try clear c14b0
          try clear c14b1
          try clear p2
          obtain ⟨kq, x26_12, rfl, HA, HJ12, ⟨mc12, rfl⟩⟩ := hcut
          cases kq with
          | zero => exact absurd HA.out (by simp [wire_Allowed.j1])
          | succ kj12 =>
            have H := HA.out
            clear HA
            simp only [wire_Allowed.j1] at H
            by_cases c15 : x26_12 = true
            · subst c15
              have H1 : (if t101 = 1 then (some (t102 == 2)) else (some false)) = some r := by rw [if_pos rfl] at H; exact H
              clear H
              have H := H1
              clear H1
              by_cases c16 : t101 = 1
              · rw [if_pos c16] at H
                have c16b0 : (t101 == 1) = true := beq_iff_eq.mpr c16
                have c16b1 : (t101 != 1) = false := bne_eq_false_iff_eq.mpr c16
                clear c16
                obtain rfl := Option.some.inj H
                go_wp2
                go_ret
                exact ⟨by first | rfl | (simp; done) | (simp [*]; done), by repeat (first | exact Drawn0.refl _ | apply Drawn0.step)⟩
              · rw [if_neg c16] at H
                have c16b0 : (t101 == 1) = false := beq_eq_false_iff_ne.mpr c16
                have c16b1 : (t101 != 1) = true := bne_iff_ne.mpr c16
                obtain rfl := Option.some.inj H
                go_wp2
                go_ret
                exact ⟨by first | rfl | (simp; done) | (simp [*]; done), by repeat (first | exact Drawn0.refl _ | apply Drawn0.step)⟩
            · replace c15 := Bool.eq_false_iff.mpr c15
              subst c15
              have H1 : (if a2 = 8 then (if t101 = 3 then (some (t102 == 1)) else (some false)) else (if a2 = 9 then (if t101 = 1 then (some (t102 == 3)) else (some false)) else (if a2 = 10 then (if t101 = 1 then (if t102 = 1 then (some (a0 != a1)) else (some false)) else (some false)) else (if a2 = 11 then (if t101 = 1 then (if t102 = 1 then (some (a0 != a1)) else (some false)) else (some false)) else (some false))))) = some r := by rw [if_neg (show ¬ (false = true) by decide)] at H; exact H
              clear H
              have H := H1
              clear H1
              by_cases c17 : a2 = 8
              · rw [if_pos c17] at H
                have c17b0 : (a2 == 8) = true := beq_iff_eq.mpr c17
                have c17b1 : (a2 != 8) = false := bne_eq_false_iff_eq.mpr c17
                clear c17
                by_cases c18 : t101 = 3
                · rw [if_pos c18] at H
                  have c18b0 : (t101 == 3) = true := beq_iff_eq.mpr c18
                  have c18b1 : (t101 != 3) = false := bne_eq_false_iff_eq.mpr c18
                  clear c18
                  obtain rfl := Option.some.inj H
                  go_wp2
                  go_ret
                  exact ⟨by first | rfl | (simp; done) | (simp [*]; done), by repeat (first | exact Drawn0.refl _ | apply Drawn0.step)⟩
                · rw [if_neg c18] at H
                  have c18b0 : (t101 == 3) = false := beq_eq_false_iff_ne.mpr c18
                  have c18b1 : (t101 != 3) = true := bne_iff_ne.mpr c18
                  obtain rfl := Option.some.inj H
                  go_wp2
                  go_ret
                  exact ⟨by first | rfl | (simp; done) | (simp [*]; done), by repeat (first | exact Drawn0.refl _ | apply Drawn0.step)⟩
              · rw [if_neg c17] at H
                have c17b0 : (a2 == 8) = false := beq_eq_false_iff_ne.mpr c17
                have c17b1 : (a2 != 8) = true := bne_iff_ne.mpr c17
                by_cases c19 : a2 = 9
                · rw [if_pos c19] at H
                  have c19b0 : (a2 == 9) = true := beq_iff_eq.mpr c19
                  have c19b1 : (a2 != 9) = false := bne_eq_false_iff_eq.mpr c19
                  clear c19
                  by_cases c20 : t101 = 1
                  · rw [if_pos c20] at H
                    have c20b0 : (t101 == 1) = true := beq_iff_eq.mpr c20
                    have c20b1 : (t101 != 1) = false := bne_eq_false_iff_eq.mpr c20
                    clear c20
                    obtain rfl := Option.some.inj H
                    go_wp2
                    go_ret
                    exact ⟨by first | rfl | (simp; done) | (simp [*]; done), by repeat (first | exact Drawn0.refl _ | apply Drawn0.step)⟩
                  · rw [if_neg c20] at H
                    have c20b0 : (t101 == 1) = false := beq_eq_false_iff_ne.mpr c20
                    have c20b1 : (t101 != 1) = true := bne_iff_ne.mpr c20
                    obtain rfl := Option.some.inj H
                    go_wp2
                    go_ret
                    exact ⟨by first | rfl | (simp; done) | (simp [*]; done), by repeat (first | exact Drawn0.refl _ | apply Drawn0.step)⟩
                · rw [if_neg c19] at H
                  have c19b0 : (a2 == 9) = false := beq_eq_false_iff_ne.mpr c19
                  have c19b1 : (a2 != 9) = true := bne_iff_ne.mpr c19
                  by_cases c21 : a2 = 10
                  · rw [if_pos c21] at H
                    have c21b0 : (a2 == 10) = true := beq_iff_eq.mpr c21
                    have c21b1 : (a2 != 10) = false := bne_eq_false_iff_eq.mpr c21
                    clear c21
                    by_cases c22 : t101 = 1
                    · rw [if_pos c22] at H
                      have c22b0 : (t101 == 1) = true := beq_iff_eq.mpr c22
                      have c22b1 : (t101 != 1) = false := bne_eq_false_iff_eq.mpr c22
                      clear c22
                      by_cases c23 : t102 = 1
                      · rw [if_pos c23] at H
                        have c23b0 : (t102 == 1) = true := beq_iff_eq.mpr c23
                        have c23b1 : (t102 != 1) = false := bne_eq_false_iff_eq.mpr c23
                        clear c23
                        obtain rfl := Option.some.inj H
                        go_wp2
                        go_ret
                        exact ⟨by first | rfl | (simp; done) | (simp [*]; done), by repeat (first | exact Drawn0.refl _ | apply Drawn0.step)⟩
                      · rw [if_neg c23] at H
                        have c23b0 : (t102 == 1) = false := beq_eq_false_iff_ne.mpr c23
                        have c23b1 : (t102 != 1) = true := bne_iff_ne.mpr c23
                        obtain rfl := Option.some.inj H
                        go_wp2
                        go_ret
                        exact ⟨by first | rfl | (simp; done) | (simp [*]; done), by repeat (first | exact Drawn0.refl _ | apply Drawn0.step)⟩
                    · rw [if_neg c22] at H
                      have c22b0 : (t101 == 1) = false := beq_eq_false_iff_ne.mpr c22
                      have c22b1 : (t101 != 1) = true := bne_iff_ne.mpr c22
                      obtain rfl := Option.some.inj H
                      go_wp2
                      go_ret
                      exact ⟨by first | rfl | (simp; done) | (simp [*]; done), by repeat (first | exact Drawn0.refl _ | apply Drawn0.step)⟩
                  · rw [if_neg c21] at H
                    have c21b0 : (a2 == 10) = false := beq_eq_false_iff_ne.mpr c21
                    have c21b1 : (a2 != 10) = true := bne_iff_ne.mpr c21
                    by_cases c24 : a2 = 11
                    · rw [if_pos c24] at H
                      have c24b0 : (a2 == 11) = true := beq_iff_eq.mpr c24
                      have c24b1 : (a2 != 11) = false := bne_eq_false_iff_eq.mpr c24
                      clear c24
                      by_cases c25 : t101 = 1
                      · rw [if_pos c25] at H
                        have c25b0 : (t101 == 1) = true := beq_iff_eq.mpr c25
                        have c25b1 : (t101 != 1) = false := bne_eq_false_iff_eq.mpr c25
                        clear c25
                        by_cases c26 : t102 = 1
                        · rw [if_pos c26] at H
                          have c26b0 : (t102 == 1) = true := beq_iff_eq.mpr c26
                          have c26b1 : (t102 != 1) = false := bne_eq_false_iff_eq.mpr c26
                          clear c26
                          obtain rfl := Option.some.inj H
                          go_wp2
                          go_ret
                          exact ⟨by first | rfl | (simp; done) | (simp [*]; done), by repeat (first | exact Drawn0.refl _ | apply Drawn0.step)⟩
                        · rw [if_neg c26] at H
                          have c26b0 : (t102 == 1) = false := beq_eq_false_iff_ne.mpr c26
                          have c26b1 : (t102 != 1) = true := bne_iff_ne.mpr c26
                          obtain rfl := Option.some.inj H
                          go_wp2
                          go_ret
                          exact ⟨by first | rfl | (simp; done) | (simp [*]; done), by repeat (first | exact Drawn0.refl _ | apply Drawn0.step)⟩
                      · rw [if_neg c25] at H
                        have c25b0 : (t101 == 1) = false := beq_eq_false_iff_ne.mpr c25
                        have c25b1 : (t101 != 1) = true := bne_iff_ne.mpr c25
                        obtain rfl := Option.some.inj H
                        go_wp2
                        go_ret
                        exact ⟨by first | rfl | (simp; done) | (simp [*]; done), by repeat (first | exact Drawn0.refl _ | apply Drawn0.step)⟩
                    · rw [if_neg c24] at H
                      have c24b0 : (a2 == 11) = false := beq_eq_false_iff_ne.mpr c24
                      have c24b1 : (a2 != 11) = true := bne_iff_ne.mpr c24
                      obtain rfl := Option.some.inj H
                      go_wp2
                      go_ret
                      exact ⟨by first | rfl | (simp; done) | (simp [*]; done), by repeat (first | exact Drawn0.refl _ | apply Drawn0.step)⟩

end Go.Proofs.YtipgpcpolobjiaaDoor.P
