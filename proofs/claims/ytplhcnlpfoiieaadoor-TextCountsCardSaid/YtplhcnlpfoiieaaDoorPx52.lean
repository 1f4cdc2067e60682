-- Written by printx.py (this work's driver over the kit's print) out of the translation; Lean checks it.
import Derived.Test.YtplhcnlpfoiieaaDoorPx0
import Derived.Test.YtplhcnlpfoiieaaDoorPx48
import Derived.Test.YtplhcnlpfoiieaaDoorPx49
import Derived.Test.YtplhcnlpfoiieaaDoorPx51
namespace Go.Proofs.YtplhcnlpfoiieaaDoor.P
open Go.RowKit Go.Proofs.YtplhcnlpfoiieaaDoorW.PrintWords Go.Proofs.YtplhcnlpfoiieaaDoorW.PrintLast Go.Proofs.YtplhcnlpfoiieaaDoorW.PrintMore
attribute [local go_sem] max2_int min2_int max_two min_two max_three min_three max_four min_four   -- for this text's walks alone
set_option linter.unusedVariables false
set_option linter.unusedSimpArgs false

/-! ### shardlaw1_TextCounts: function 8 -/
mutual
def shardlaw1_TextCounts.l0 : Nat → Int → Int → Option (Bool)
  | 0, _, _ => none
  | k + 1, x0, x3 => if x3 < 3 then ((text_Digits.f k x0 x3).bind fun bt274 => ((text_Number.f k bt274.1).bind fun bt276 => (if bt274.2 = 0 then (if bt276.2.2 = 0 then (if bt276.2.1 = 0 then (shardlaw1_TextCounts.j1 k x0 x3 bt274.1 (bt276.1 != x0)) else (shardlaw1_TextCounts.j1 k x0 x3 bt274.1 true)) else (shardlaw1_TextCounts.j1 k x0 x3 bt274.1 true)) else (shardlaw1_TextCounts.j1 k x0 x3 bt274.1 true)))) else (some true)
def shardlaw1_TextCounts.j1 : Nat → Int → Int → ByteArray → Bool → Option (Bool)
  | 0, _, _, _, _ => none
  | k + 1, x0, x3, x4, x39 => if x39 = true then (some false) else (if x3 = 2 then (shardlaw1_TextCounts.j2 k x0 x3 x4 ((x4.size : Int) != 18)) else (shardlaw1_TextCounts.j2 k x0 x3 x4 false))
def shardlaw1_TextCounts.j2 : Nat → Int → Int → ByteArray → Bool → Option (Bool)
  | 0, _, _, _, _ => none
  | k + 1, x0, x3, x4, x46 => if x46 = true then (some false) else (if x3 < 2 then (if x0 = 0 then (shardlaw1_TextCounts.l0 k x0 (wrap64 (x3 + 1))) else (if (x4.size : Int) ≤ (wrap64 (2 * x3)) then (some false) else (if 0 ≤ (wrap64 (2 * x3)) then (if (wrap64 (2 * x3)) < (x4.size : Int) then (if (bt x4 (wrap64 (2 * x3))) = 48 then (some false) else (shardlaw1_TextCounts.l0 k x0 (wrap64 (x3 + 1)))) else (none)) else (none)))) else (shardlaw1_TextCounts.l0 k x0 (wrap64 (x3 + 1))))
end
def shardlaw1_TextCounts.f (k : Nat) (a0 : Int) : Option (Bool) := shardlaw1_TextCounts.l0 k a0 0
theorem shardlaw1_TextCounts.mono_l : ∀ k, (∀ y0 y1, LeO (shardlaw1_TextCounts.l0 k y0 y1) (shardlaw1_TextCounts.l0 (k + 1) y0 y1)) ∧ (∀ y0 y1 y2 y3, LeO (shardlaw1_TextCounts.j1 k y0 y1 y2 y3) (shardlaw1_TextCounts.j1 (k + 1) y0 y1 y2 y3)) ∧ (∀ y0 y1 y2 y3, LeO (shardlaw1_TextCounts.j2 k y0 y1 y2 y3) (shardlaw1_TextCounts.j2 (k + 1) y0 y1 y2 y3))
  | 0 => ⟨fun _ _ r h => by simp [shardlaw1_TextCounts.l0] at h, fun _ _ _ _ r h => by simp [shardlaw1_TextCounts.j1] at h, fun _ _ _ _ r h => by simp [shardlaw1_TextCounts.j2] at h⟩
  | k + 1 => by
    obtain ⟨ih0, ih1, ih2⟩ := shardlaw1_TextCounts.mono_l k
    refine ⟨?_, ?_, ?_⟩
    · intro y0 y1
      unfold shardlaw1_TextCounts.l0
      repeat' first
      | (with_reducible exact ih0 _ _)
      | (with_reducible exact ih1 _ _ _ _)
      | (with_reducible exact ih2 _ _ _ _)
      | (with_reducible exact text_Digits.mono _ _ _)
      | (with_reducible exact text_Number.mono _ _)
      | (with_reducible exact LeO.refl _)
      | (with_reducible exact LeO.none _)
      | (with_reducible refine LeO.ite ?_ ?_)
      | (with_reducible refine LeO.bind ?_ (fun _ => ?_))
      | exact ih0 _ _
      | exact ih1 _ _ _ _
      | exact ih2 _ _ _ _
      | exact text_Digits.mono _ _ _
      | exact text_Number.mono _ _
      | exact LeO.none _
      | refine LeO.ite ?_ ?_
      | refine LeO.bind ?_ (fun _ => ?_)
    · intro y0 y1 y2 y3
      unfold shardlaw1_TextCounts.j1
      repeat' first
      | (with_reducible exact ih0 _ _)
      | (with_reducible exact ih1 _ _ _ _)
      | (with_reducible exact ih2 _ _ _ _)
      | (with_reducible exact text_Digits.mono _ _ _)
      | (with_reducible exact text_Number.mono _ _)
      | (with_reducible exact LeO.refl _)
      | (with_reducible exact LeO.none _)
      | (with_reducible refine LeO.ite ?_ ?_)
      | (with_reducible refine LeO.bind ?_ (fun _ => ?_))
      | exact ih0 _ _
      | exact ih1 _ _ _ _
      | exact ih2 _ _ _ _
      | exact text_Digits.mono _ _ _
      | exact text_Number.mono _ _
      | exact LeO.none _
      | refine LeO.ite ?_ ?_
      | refine LeO.bind ?_ (fun _ => ?_)
    · intro y0 y1 y2 y3
      unfold shardlaw1_TextCounts.j2
      repeat' first
      | (with_reducible exact ih0 _ _)
      | (with_reducible exact ih1 _ _ _ _)
      | (with_reducible exact ih2 _ _ _ _)
      | (with_reducible exact text_Digits.mono _ _ _)
      | (with_reducible exact text_Number.mono _ _)
      | (with_reducible exact LeO.refl _)
      | (with_reducible exact LeO.none _)
      | (with_reducible refine LeO.ite ?_ ?_)
      | (with_reducible refine LeO.bind ?_ (fun _ => ?_))
      | exact ih0 _ _
      | exact ih1 _ _ _ _
      | exact ih2 _ _ _ _
      | exact text_Digits.mono _ _ _
      | exact text_Number.mono _ _
      | exact LeO.none _
      | refine LeO.ite ?_ ?_
      | refine LeO.bind ?_ (fun _ => ?_)
theorem shardlaw1_TextCounts.mono : ∀ a0 k, LeO (shardlaw1_TextCounts.f k a0) (shardlaw1_TextCounts.f (k + 1) a0) := by
  intro a0 k
  obtain ⟨ih0, ih1, ih2⟩ := shardlaw1_TextCounts.mono_l k
  unfold shardlaw1_TextCounts.f
  repeat' first
      | (with_reducible exact ih0 _ _)
      | (with_reducible exact ih1 _ _ _ _)
      | (with_reducible exact ih2 _ _ _ _)
      | (with_reducible exact text_Digits.mono _ _ _)
      | (with_reducible exact text_Number.mono _ _)
      | (with_reducible exact LeO.refl _)
      | (with_reducible exact LeO.none _)
      | (with_reducible refine LeO.ite ?_ ?_)
      | (with_reducible refine LeO.bind ?_ (fun _ => ?_))
      | exact ih0 _ _
      | exact ih1 _ _ _ _
      | exact ih2 _ _ _ _
      | exact text_Digits.mono _ _ _
      | exact text_Number.mono _ _
      | exact LeO.none _
      | refine LeO.ite ?_ ?_
      | refine LeO.bind ?_ (fun _ => ?_)
set_option maxHeartbeats 8000000 in
set_option maxRecDepth 100000 in
theorem shardlaw1_TextCounts.calls (k : Nat) (a0 : Int) (r : Bool) (w : World) (hG_pow10 : glob_pow10 w) (h : shardlaw1_TextCounts.f k a0 = some r) :
    Calls Tryd.prog 8 #[.int .u64 a0] w fun e w' => e = .returned (.bool r) ∧ Below w.heap.size w w' := by
  have HG_pow10 := Aside0.mk hG_pow10
  clear hG_pow10
  have HB := Aside0.mk (Below.refl w.heap.size w)
  have H : (shardlaw1_TextCounts.l0 k a0 0) = some r := h
  clear h
  have H' := Aside0.mk H
  clear H
  go_enter Tryd.func8, Tryd.ntmps8
  go_wp2
  go_loopg [3] k (fun kq v3 w' => ∃ (x3_1 : Int), v3 = .int .i64 x3_1 ∧ Aside0 (shardlaw1_TextCounts.l0 kq a0 x3_1 = some r) ∧ Aside0 (kq ≤ k) ∧ Aside0 (Below w.heap.size w w'))
  case atStart => exact ⟨(0), (by first | rfl | (simp; done) | (simp [*]; done)), H', ⟨Nat.le_refl _⟩, ⟨by repeat (first | (with_reducible first | exact HB.out | apply below_alloc | apply pw_below_drewN | apply below_drew1) | exact HB.out)⟩⟩
  case round =>
    clear H'
    obtain ⟨x3_1, rfl, HA, HK1, HB⟩ := hrel
    cases gk with
    | zero => exact absurd HA.out (by simp [shardlaw1_TextCounts.l0])
    | succ k1 =>
      have H := HA.out
      clear HA
      simp only [shardlaw1_TextCounts.l0] at H
      by_cases c2 : x3_1 < 3
      · rw [if_pos c2] at H
        have c2b0 : decide (x3_1 < 3) = true := decide_eq_true c2
        clear c2
        replace H := Option.bind_eq_some_iff.mp H
        obtain ⟨⟨t274, t275⟩, A30, H⟩ := H
        replace H : ((text_Number.f k1 t274).bind fun bt276 => (if t275 = 0 then (if bt276.2.2 = 0 then (if bt276.2.1 = 0 then (shardlaw1_TextCounts.j1 k1 a0 x3_1 t274 (bt276.1 != a0)) else (shardlaw1_TextCounts.j1 k1 a0 x3_1 t274 true)) else (shardlaw1_TextCounts.j1 k1 a0 x3_1 t274 true)) else (shardlaw1_TextCounts.j1 k1 a0 x3_1 t274 true))) = some r := H
        have A3 := Aside0.mk A30
        clear A30
        replace H := Option.bind_eq_some_iff.mp H
        obtain ⟨⟨t276, t277, t278⟩, A40, H⟩ := H
        replace H : (if t275 = 0 then (if t278 = 0 then (if t277 = 0 then (shardlaw1_TextCounts.j1 k1 a0 x3_1 t274 (t276 != a0)) else (shardlaw1_TextCounts.j1 k1 a0 x3_1 t274 true)) else (shardlaw1_TextCounts.j1 k1 a0 x3_1 t274 true)) else (shardlaw1_TextCounts.j1 k1 a0 x3_1 t274 true)) = some r := H
        have A4 := Aside0.mk A40
        clear A40
        have HC5 := Aside0.mk H
        clear H
        go_upto_region 6 with (first | ((with_reducible refine gate_callee (f := 18) rfl ?_); refine goesL_ (some 16) rfl rfl Tryd.func18 (by kernel_rfl) rfl #[.int .u64 a0, .int .i64 x3_1] rfl (by (try simp only [List.map_toArray, List.map_cons, List.map_nil]); first | done | rfl | (simp only [List.length_drop, List.length_take]; rfl)) ?_; (with_reducible refine (text_Digits.calls k1 a0 x3_1 t274 t275 _ ?side1 A3.out).mono ?_); (case side1 => exact glob_pow10.below HG_pow10.out (by repeat (first | (with_reducible first | exact HB.out | apply below_alloc | apply pw_below_drewN | apply below_drew1) | exact HB.out))); rintro e w6 ⟨rfl, hb⟩; refine ⟨_, rfl, ?_⟩; have n0_ := Aside0.mk (below_step (by repeat (first | (with_reducible first | exact HB.out | apply below_alloc | apply pw_below_drewN | apply below_drew1) | exact HB.out)) hb); clear HB; have HB := n0_; clear n0_; (try clear hb); (try clear hb2); (try clear hk); (try clear hi)) | ((with_reducible refine gate_callee (f := 23) rfl ?_); refine goesL_ (some 21) rfl rfl Tryd.func23 (by kernel_rfl) rfl #[.string t274] rfl (by (try simp only [List.map_toArray, List.map_cons, List.map_nil]); first | done | rfl | (simp only [List.length_drop, List.length_take]; rfl)) ?_; (with_reducible refine (text_Number.calls k1 t274 t276 t277 t278 _ A4.out).mono ?_); rintro e w' ⟨rfl, ⟨nd, rfl⟩⟩; refine ⟨_, rfl, ?_⟩))
        (try simp only [Act.put, List.setIfInBounds_toArray, List.set_cons_zero, List.set_cons_succ])
        go_cut [39] (fun v39 wc => ∃ (kq : Nat) (x39_4 : Bool), v39 = .bool x39_4 ∧ Aside0 (shardlaw1_TextCounts.j1 kq a0 x3_1 t274 x39_4 = some r) ∧ Aside0 (kq ≤ k1) ∧ Aside0 (Below w.heap.size w wc))
        case first =>
          have H := HC5.out
          clear HC5
          by_cases c7 : t275 = 0
          · rw [if_pos c7] at H
            have c7b0 : (t275 == 0) = true := beq_iff_eq.mpr c7
            have c7b1 : (t275 != 0) = false := bne_eq_false_iff_eq.mpr c7
            clear c7
            (first | rw [c7b0] | (simp only [i64_w, i32_w]; rw [c7b0]) | skip)
            by_cases c8 : t278 = 0
            · rw [if_pos c8] at H
              have c8b0 : (t278 == 0) = true := beq_iff_eq.mpr c8
              have c8b1 : (t278 != 0) = false := bne_eq_false_iff_eq.mpr c8
              clear c8
              by_cases c9 : t277 = 0
              · rw [if_pos c9] at H
                have c9b0 : (t277 == 0) = true := beq_iff_eq.mpr c9
                have c9b1 : (t277 != 0) = false := bne_eq_false_iff_eq.mpr c9
                clear c9
                have H' := Aside0.mk H
                clear H
                go_wp2
                go_meet
                case rel => exact ⟨_, ((t276 != a0)), (by first | rfl | (simp; done) | (simp [*]; done)), H', ⟨by have := HK1.out; first | omega | exact Nat.le_refl _⟩, ⟨by repeat (first | (with_reducible first | exact HB.out | apply below_alloc | apply pw_below_drewN | apply below_drew1) | exact HB.out)⟩⟩
              · rw [if_neg c9] at H
                have c9b0 : (t277 == 0) = false := beq_eq_false_iff_ne.mpr c9
                have c9b1 : (t277 != 0) = true := bne_iff_ne.mpr c9
                have H' := Aside0.mk H
                clear H
                go_wp2
                go_meet
                case rel => exact ⟨_, (true), (by first | rfl | (simp; done) | (simp [*]; done)), H', ⟨by have := HK1.out; first | omega | exact Nat.le_refl _⟩, ⟨by repeat (first | (with_reducible first | exact HB.out | apply below_alloc | apply pw_below_drewN | apply below_drew1) | exact HB.out)⟩⟩
            · rw [if_neg c8] at H
              have c8b0 : (t278 == 0) = false := beq_eq_false_iff_ne.mpr c8
              have c8b1 : (t278 != 0) = true := bne_iff_ne.mpr c8
              have H' := Aside0.mk H
              clear H
              go_wp2
              go_meet
              case rel => exact ⟨_, (true), (by first | rfl | (simp; done) | (simp [*]; done)), H', ⟨by have := HK1.out; first | omega | exact Nat.le_refl _⟩, ⟨by repeat (first | (with_reducible first | exact HB.out | apply below_alloc | apply pw_below_drewN | apply below_drew1) | exact HB.out)⟩⟩
          · rw [if_neg c7] at H
            have c7b0 : (t275 == 0) = false := beq_eq_false_iff_ne.mpr c7
            have c7b1 : (t275 != 0) = true := bne_iff_ne.mpr c7
            (first | rw [c7b0] | (simp only [i64_w, i32_w]; rw [c7b0]) | skip)
            have H' := Aside0.mk H
            clear H
            go_wp2
            go_meet
            case rel => exact ⟨_, (true), (by first | rfl | (simp; done) | (simp [*]; done)), H', ⟨by have := HK1.out; first | omega | exact Nat.le_refl _⟩, ⟨by repeat (first | (with_reducible first | exact HB.out | apply below_alloc | apply pw_below_drewN | apply below_drew1) | exact HB.out)⟩⟩
        case rest =>
          clear HC5
          try clear c1
          try clear c2
          try clear c2b0
          try clear p2
          try clear c7
          try clear c7b0
          try clear c7b1
          try clear c8
          try clear c8b0
          try clear c8b1
          try clear c9
          try clear c9b0
          try clear c9b1
          obtain ⟨kq, x39_4, rfl, HA, HJ4, HB⟩ := hcut
          cases kq with
          | zero => exact absurd HA.out (by simp [shardlaw1_TextCounts.j1])
          | succ kj4 =>
            have H := HA.out
            clear HA
            simp only [shardlaw1_TextCounts.j1] at H
            by_cases c10 : x39_4 = true
            · subst c10
              have H1 : (some false) = some r := by rw [if_pos rfl] at H; exact H
              clear H
              have H := H1
              clear H1
              obtain rfl := Option.some.inj H
              go_wp2
              go_ret
              exact ⟨by first | rfl | (simp [errW_none, errW_some] <;> rfl) | (simp [*, errW_none, errW_some] <;> rfl), by repeat (first | (with_reducible first | exact HB.out | apply below_alloc | apply pw_below_drewN | apply below_drew1) | exact HB.out)⟩
            · replace c10 := Bool.eq_false_iff.mpr c10
              subst c10
              have H1 : (if x3_1 = 2 then (shardlaw1_TextCounts.j2 kj4 a0 x3_1 t274 ((t274.size : Int) != 18)) else (shardlaw1_TextCounts.j2 kj4 a0 x3_1 t274 false)) = some r := by rw [if_neg (show ¬ (false = true) by decide)] at H; exact H
              clear H
              have H := H1
              clear H1
              have HC11 := Aside0.mk H
              clear H
              go_upto_region 8 with (fail)
              go_cut [46] (fun v46 wc => ∃ (kq : Nat) (x46_10 : Bool), v46 = .bool x46_10 ∧ Aside0 (shardlaw1_TextCounts.j2 kq a0 x3_1 t274 x46_10 = some r) ∧ Aside0 (kq ≤ kj4) ∧ Aside0 (Below w.heap.size w wc))
              case first =>
                have H := HC11.out
                clear HC11
                by_cases c12 : x3_1 = 2
                · rw [if_pos c12] at H
                  have c12b0 : (x3_1 == 2) = true := beq_iff_eq.mpr c12
                  have c12b1 : (x3_1 != 2) = false := bne_eq_false_iff_eq.mpr c12
                  clear c12
                  (first | rw [c12b0] | (simp only [i64_w, i32_w]; rw [c12b0]) | skip)
                  have H' := Aside0.mk H
                  clear H
                  go_wp2
                  go_meet
                  case rel => exact ⟨_, (((t274.size : Int) != 18)), (by first | rfl | (simp; done) | (simp [*]; done)), H', ⟨by have := HK1.out; have := HJ4.out; first | omega | exact Nat.le_refl _⟩, ⟨by repeat (first | (with_reducible first | exact HB.out | apply below_alloc | apply pw_below_drewN | apply below_drew1) | exact HB.out)⟩⟩
                · rw [if_neg c12] at H
                  have c12b0 : (x3_1 == 2) = false := beq_eq_false_iff_ne.mpr c12
                  have c12b1 : (x3_1 != 2) = true := bne_iff_ne.mpr c12
                  (first | rw [c12b0] | (simp only [i64_w, i32_w]; rw [c12b0]) | skip)
                  have H' := Aside0.mk H
                  clear H
                  go_wp2
                  go_meet
                  case rel => exact ⟨_, (false), (by first | rfl | (simp; done) | (simp [*]; done)), H', ⟨by have := HK1.out; have := HJ4.out; first | omega | exact Nat.le_refl _⟩, ⟨by repeat (first | (with_reducible first | exact HB.out | apply below_alloc | apply pw_below_drewN | apply below_drew1) | exact HB.out)⟩⟩
              case rest =>
                clear HC11
                try clear c1
                try clear c2
                try clear c2b0
                try clear p2
                try clear c7
                try clear c7b0
                try clear c7b1
                try clear c8
                try clear c8b0
                try clear c8b1
                try clear c9
                try clear c9b0
                try clear c9b1
                try clear c10
                try clear c12
                try clear c12b0
                try clear c12b1
                try clear p2
                obtain ⟨kq, x46_10, rfl, HA, HJ10, HB⟩ := hcut
                cases kq with
                | zero => exact absurd HA.out (by simp [shardlaw1_TextCounts.j2])
                | succ kj10 =>
                  have H := HA.out
                  clear HA
                  simp only [shardlaw1_TextCounts.j2] at H
                  by_cases c13 : x46_10 = true
                  · subst c13
                    have H1 : (some false) = some r := by rw [if_pos rfl] at H; exact H
                    clear H
                    have H := H1
                    clear H1
                    obtain rfl := Option.some.inj H
                    go_wp2
                    go_ret
                    exact ⟨by first | rfl | (simp [errW_none, errW_some] <;> rfl) | (simp [*, errW_none, errW_some] <;> rfl), by repeat (first | (with_reducible first | exact HB.out | apply below_alloc | apply pw_below_drewN | apply below_drew1) | exact HB.out)⟩
                  · replace c13 := Bool.eq_false_iff.mpr c13
                    subst c13
                    have H1 : (if x3_1 < 2 then (if a0 = 0 then (shardlaw1_TextCounts.l0 kj10 a0 (wrap64 (x3_1 + 1))) else (if (t274.size : Int) ≤ (wrap64 (2 * x3_1)) then (some false) else (if 0 ≤ (wrap64 (2 * x3_1)) then (if (wrap64 (2 * x3_1)) < (t274.size : Int) then (if (bt t274 (wrap64 (2 * x3_1))) = 48 then (some false) else (shardlaw1_TextCounts.l0 kj10 a0 (wrap64 (x3_1 + 1)))) else (none)) else (none)))) else (shardlaw1_TextCounts.l0 kj10 a0 (wrap64 (x3_1 + 1)))) = some r := by rw [if_neg (show ¬ (false = true) by decide)] at H; exact H
                    clear H
                    have H := H1
                    clear H1
                    by_cases c14 : x3_1 < 2
                    · rw [if_pos c14] at H
                      have c14b0 : decide (x3_1 < 2) = true := decide_eq_true c14
                      clear c14
                      by_cases c15 : a0 = 0
                      · rw [if_pos c15] at H
                        have c15b0 : (a0 == 0) = true := beq_iff_eq.mpr c15
                        have c15b1 : (a0 != 0) = false := bne_eq_false_iff_eq.mpr c15
                        clear c15
                        have H' := Aside0.mk H
                        clear H
                        go_wp2
                        go_roundg kj10
                        case measure => have := HK1.out; have := HJ4.out; have := HJ10.out; omega
                        case rel => exact ⟨(wrap64 (x3_1 + 1)), (by first | rfl | (simp; done) | (simp [*]; done)), H', ⟨by have := HK1.out; have := HJ4.out; have := HJ10.out; omega⟩, ⟨by repeat (first | (with_reducible first | exact HB.out | apply below_alloc | apply pw_below_drewN | apply below_drew1) | exact HB.out)⟩⟩
                      · rw [if_neg c15] at H
                        have c15b0 : (a0 == 0) = false := beq_eq_false_iff_ne.mpr c15
                        have c15b1 : (a0 != 0) = true := bne_iff_ne.mpr c15
                        by_cases c16 : (t274.size : Int) ≤ (wrap64 (2 * x3_1))
                        · rw [if_pos c16] at H
                          have c16b0 : decide ((t274.size : Int) ≤ (wrap64 (2 * x3_1))) = true := decide_eq_true c16
                          clear c16
                          obtain rfl := Option.some.inj H
                          go_wp2
                          go_ret
                          exact ⟨by first | rfl | (simp [errW_none, errW_some] <;> rfl) | (simp [*, errW_none, errW_some] <;> rfl), by repeat (first | (with_reducible first | exact HB.out | apply below_alloc | apply pw_below_drewN | apply below_drew1) | exact HB.out)⟩
                        · rw [if_neg c16] at H
                          have c16b0 : decide ((t274.size : Int) ≤ (wrap64 (2 * x3_1))) = false := decide_eq_false c16
                          clear c16
                          obtain ⟨ji17, hji17⟩ : ∃ j_ : Int, (wrap64 (2 * x3_1)) = j_ := ⟨_, rfl⟩
                          replace H : (if 0 ≤ (ji17) then (if (ji17) < (t274.size : Int) then (if (bt t274 (ji17)) = 48 then (some false) else (shardlaw1_TextCounts.l0 kj10 a0 (wrap64 (x3_1 + 1)))) else (none)) else (none)) = some r := by first | (rw [hji17] at H; exact H) | (simp only [hji17] at H ⊢; exact H)
                          (try rw [hji17] at c16b0)
                          have hji17w : (IntKind.i64.wrap (2 * x3_1)) = ji17 := (i64_w _).trans hji17
                          by_cases c18 : 0 ≤ (ji17)
                          · rw [if_pos c18] at H
                            have c18b0 : decide (0 ≤ (ji17)) = true := decide_eq_true c18
                            clear c18
                            by_cases c19 : (ji17) < (t274.size : Int)
                            · rw [if_pos c19] at H
                              have c19b0 : decide ((ji17) < (t274.size : Int)) = true := decide_eq_true c19
                              clear c19
                              by_cases c21 : (bt t274 (ji17)) = 48
                              · rw [if_pos c21] at H
                                have c21b0 : ((bt t274 (ji17)) == 48) = true := beq_iff_eq.mpr c21
                                have c21b1 : ((bt t274 (ji17)) != 48) = false := bne_eq_false_iff_eq.mpr c21
                                clear c21
                                obtain rfl := Option.some.inj H
                                have p20 : 0 ≤ ((ji17) : Int) := of_decide_eq_true (by first | (with_reducible assumption) | assumption)
                                have q20 : (ji17) < (t274.size : Int) := of_decide_eq_true (by first | (with_reducible assumption) | assumption)
                                have hx20 := bt_at t274 (ji17)
                                replace p20 := eq_true p20
                                replace q20 := eq_true q20
                                go_wp2
                                go_ret
                                exact ⟨by first | rfl | (simp [errW_none, errW_some] <;> rfl) | (simp only [← hji17]; first | rfl | (simp [errW_none, errW_some] <;> rfl)) | (simp [*, errW_none, errW_some] <;> rfl), by repeat (first | (with_reducible first | exact HB.out | apply below_alloc | apply pw_below_drewN | apply below_drew1) | exact HB.out)⟩
                              · rw [if_neg c21] at H
                                have c21b0 : ((bt t274 (ji17)) == 48) = false := beq_eq_false_iff_ne.mpr c21
                                have c21b1 : ((bt t274 (ji17)) != 48) = true := bne_iff_ne.mpr c21
                                have H' := Aside0.mk H
                                clear H
                                have p20 : 0 ≤ ((ji17) : Int) := of_decide_eq_true (by first | (with_reducible assumption) | assumption)
                                have q20 : (ji17) < (t274.size : Int) := of_decide_eq_true (by first | (with_reducible assumption) | assumption)
                                have hx20 := bt_at t274 (ji17)
                                replace p20 := eq_true p20
                                replace q20 := eq_true q20
                                go_wp2
                                go_roundg kj10
                                case measure => have := HK1.out; have := HJ4.out; have := HJ10.out; omega
                                case rel => exact ⟨(wrap64 (x3_1 + 1)), (by first | rfl | (simp; done) | (simp [*]; done)), H', ⟨by have := HK1.out; have := HJ4.out; have := HJ10.out; omega⟩, ⟨by repeat (first | (with_reducible first | exact HB.out | apply below_alloc | apply pw_below_drewN | apply below_drew1) | exact HB.out)⟩⟩
                            · rw [if_neg c19] at H
                              exact absurd H (by simp)
                          · rw [if_neg c18] at H
                            exact absurd H (by simp)
                    · rw [if_neg c14] at H
                      have c14b0 : decide (x3_1 < 2) = false := decide_eq_false c14
                      clear c14
                      have H' := Aside0.mk H
                      clear H
                      go_wp2
                      go_roundg kj10
                      case measure => have := HK1.out; have := HJ4.out; have := HJ10.out; omega
                      case rel => exact ⟨(wrap64 (x3_1 + 1)), (by first | rfl | (simp; done) | (simp [*]; done)), H', ⟨by have := HK1.out; have := HJ4.out; have := HJ10.out; omega⟩, ⟨by repeat (first | (with_reducible first | exact HB.out | apply below_alloc | apply pw_below_drewN | apply below_drew1) | exact HB.out)⟩⟩
      · rw [if_neg c2] at H
        have c2b0 : decide (x3_1 < 3) = false := decide_eq_false c2
        clear c2
        obtain rfl := Option.some.inj H
        go_wp2
        go_ret
        exact ⟨by first | rfl | (simp [errW_none, errW_some] <;> rfl) | (simp [*, errW_none, errW_some] <;> rfl), by repeat (first | (with_reducible first | exact HB.out | apply below_alloc | apply pw_below_drewN | apply below_drew1) | exact HB.out)⟩

/-- THE ONE PURE STATEMENT of shardlaw1_TextCounts: yours. -/
def shardlaw1_TextCounts.Pure : Prop := ∀ (a0 : Int), (Lit.int .u64 a0).wf = true → ∃ k, shardlaw1_TextCounts.f k a0 = some true

end Go.Proofs.YtplhcnlpfoiieaaDoor.P
