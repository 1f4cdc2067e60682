-- Written by printx.py (this work's driver over the kit's print) out of the translation; Lean checks it.
import Derived.Test.YtplhcnlpfoiieaaDoorPx0
import Derived.Test.YtplhcnlpfoiieaaDoorPx5
import Derived.Test.YtplhcnlpfoiieaaDoorPx18
import Derived.Test.YtplhcnlpfoiieaaDoorPx23
import Derived.Test.YtplhcnlpfoiieaaDoorPx33
import Derived.Test.YtplhcnlpfoiieaaDoorPx34
namespace Go.Proofs.YtplhcnlpfoiieaaDoor.P
open Go.RowKit Go.Proofs.YtplhcnlpfoiieaaDoorW.PrintWords Go.Proofs.YtplhcnlpfoiieaaDoorW.PrintLast Go.Proofs.YtplhcnlpfoiieaaDoorW.PrintMore
attribute [local go_sem] max2_int min2_int max_two min_two max_three min_three max_four min_four   -- for this text's walks alone
set_option linter.unusedVariables false
set_option linter.unusedSimpArgs false

/-! ### shardlaw1_TextComesBack: function 9 -/
mutual
def shardlaw1_TextComesBack.j0 : Nat → ByteArray → Bool → Option (Bool)
  | 0, _, _ => none
  | k + 1, x3, x47 => if x47 = true then (some false) else ((text_Pieces.f x3).bind fun t268 => (shardlaw1_TextComesBack.l0 k x3 t268 0 0))
def shardlaw1_TextComesBack.l0 : Nat → ByteArray → List (S53) → Int → Int → Option (Bool)
  | 0, _, _, _, _ => none
  | k + 1, x3, x7, x8, x9 => if x9 < (x7.length : Int) then (if 0 ≤ x9 then ((text_Plain.f k ((rd_T53 x7 x9).f0)).bind fun t272 => (if (rd_T53 x7 x9).f3 = true then (some false) else (if t272 = true then (if ((rd_T53 x7 x9).f1) = x8 then (shardlaw1_TextComesBack.l0 k x3 x7 (wrap64 (x8 + ((rd_T53 x7 x9).f2))) (wrap64 (x9 + 1))) else (some false)) else (some false)))) else (none)) else (some (x8 == (x3.size : Int)))
end
def shardlaw1_TextComesBack.f (k : Nat) (a0 : ByteArray) : Option (Bool) := (text_Quote.f k a0).bind fun t264 => ((text_Unquote.f k t264).bind fun bt265 => (if bt265.1.toList = a0.toList then (if bt265.2.1 = 0 then (if bt265.2.2 = 0 then (if (t264.size : Int) < 2 then (shardlaw1_TextComesBack.j0 k t264 true) else (if 0 < (t264.size : Int) then (if (bt t264 0) = 34 then (if 0 ≤ (wrap64 ((t264.size : Int) - 1)) then (if (wrap64 ((t264.size : Int) - 1)) < (t264.size : Int) then (shardlaw1_TextComesBack.j0 k t264 ((bt t264 (wrap64 ((t264.size : Int) - 1))) != 34)) else (none)) else (none)) else (shardlaw1_TextComesBack.j0 k t264 true)) else (none))) else (shardlaw1_TextComesBack.j0 k t264 true)) else (shardlaw1_TextComesBack.j0 k t264 true)) else (shardlaw1_TextComesBack.j0 k t264 true)))
theorem shardlaw1_TextComesBack.mono_l : ∀ k, (∀ y0 y1, LeO (shardlaw1_TextComesBack.j0 k y0 y1) (shardlaw1_TextComesBack.j0 (k + 1) y0 y1)) ∧ (∀ y0 y1 y2 y3, LeO (shardlaw1_TextComesBack.l0 k y0 y1 y2 y3) (shardlaw1_TextComesBack.l0 (k + 1) y0 y1 y2 y3))
  | 0 => ⟨fun _ _ r h => by simp [shardlaw1_TextComesBack.j0] at h, fun _ _ _ _ r h => by simp [shardlaw1_TextComesBack.l0] at h⟩
  | k + 1 => by
    obtain ⟨ih0, ih1⟩ := shardlaw1_TextComesBack.mono_l k
    refine ⟨?_, ?_⟩
    · intro y0 y1
      unfold shardlaw1_TextComesBack.j0
      repeat' first
      | (with_reducible exact ih0 _ _)
      | (with_reducible exact ih1 _ _ _ _)
      | (with_reducible exact text_Plain.mono _ _)
      | (with_reducible exact text_Quote.mono _ _)
      | (with_reducible exact text_Unquote.mono _ _)
      | (with_reducible exact LeO.refl _)
      | (with_reducible exact LeO.none _)
      | (with_reducible refine LeO.ite ?_ ?_)
      | (with_reducible refine LeO.bind ?_ (fun _ => ?_))
      | exact ih0 _ _
      | exact ih1 _ _ _ _
      | exact text_Plain.mono _ _
      | exact text_Quote.mono _ _
      | exact text_Unquote.mono _ _
      | exact LeO.none _
      | refine LeO.ite ?_ ?_
      | refine LeO.bind ?_ (fun _ => ?_)
    · intro y0 y1 y2 y3
      unfold shardlaw1_TextComesBack.l0
      repeat' first
      | (with_reducible exact ih0 _ _)
      | (with_reducible exact ih1 _ _ _ _)
      | (with_reducible exact text_Plain.mono _ _)
      | (with_reducible exact text_Quote.mono _ _)
      | (with_reducible exact text_Unquote.mono _ _)
      | (with_reducible exact LeO.refl _)
      | (with_reducible exact LeO.none _)
      | (with_reducible refine LeO.ite ?_ ?_)
      | (with_reducible refine LeO.bind ?_ (fun _ => ?_))
      | exact ih0 _ _
      | exact ih1 _ _ _ _
      | exact text_Plain.mono _ _
      | exact text_Quote.mono _ _
      | exact text_Unquote.mono _ _
      | exact LeO.none _
      | refine LeO.ite ?_ ?_
      | refine LeO.bind ?_ (fun _ => ?_)
theorem shardlaw1_TextComesBack.mono : ∀ a0 k, LeO (shardlaw1_TextComesBack.f k a0) (shardlaw1_TextComesBack.f (k + 1) a0) := by
  intro a0 k
  obtain ⟨ih0, ih1⟩ := shardlaw1_TextComesBack.mono_l k
  unfold shardlaw1_TextComesBack.f
  repeat' first
      | (with_reducible exact ih0 _ _)
      | (with_reducible exact ih1 _ _ _ _)
      | (with_reducible exact text_Plain.mono _ _)
      | (with_reducible exact text_Quote.mono _ _)
      | (with_reducible exact text_Unquote.mono _ _)
      | (with_reducible exact LeO.refl _)
      | (with_reducible exact LeO.none _)
      | (with_reducible refine LeO.ite ?_ ?_)
      | (with_reducible refine LeO.bind ?_ (fun _ => ?_))
      | exact ih0 _ _
      | exact ih1 _ _ _ _
      | exact text_Plain.mono _ _
      | exact text_Quote.mono _ _
      | exact text_Unquote.mono _ _
      | exact LeO.none _
      | refine LeO.ite ?_ ?_
      | refine LeO.bind ?_ (fun _ => ?_)
set_option maxHeartbeats 8000000 in
set_option maxRecDepth 100000 in
theorem shardlaw1_TextComesBack.calls (k : Nat) (a0 : ByteArray) (r : Bool) (w : World) (hG_utf8 : glob_utf8 w) (h : shardlaw1_TextComesBack.f k a0 = some r) :
    Calls Tryd.prog 9 #[.string a0] w fun e w' => e = .returned (.bool r) ∧ Below w.heap.size w w' := by
  have HG_utf8 := Aside0.mk hG_utf8
  clear hG_utf8
  have HB := Aside0.mk (Below.refl w.heap.size w)
  have H : ((text_Quote.f k a0).bind fun t264 => ((text_Unquote.f k t264).bind fun bt265 => (if bt265.1.toList = a0.toList then (if bt265.2.1 = 0 then (if bt265.2.2 = 0 then (if (t264.size : Int) < 2 then (shardlaw1_TextComesBack.j0 k t264 true) else (if 0 < (t264.size : Int) then (if (bt t264 0) = 34 then (if 0 ≤ (wrap64 ((t264.size : Int) - 1)) then (if (wrap64 ((t264.size : Int) - 1)) < (t264.size : Int) then (shardlaw1_TextComesBack.j0 k t264 ((bt t264 (wrap64 ((t264.size : Int) - 1))) != 34)) else (none)) else (none)) else (shardlaw1_TextComesBack.j0 k t264 true)) else (none))) else (shardlaw1_TextComesBack.j0 k t264 true)) else (shardlaw1_TextComesBack.j0 k t264 true)) else (shardlaw1_TextComesBack.j0 k t264 true)))) = some r := h
  clear h
  replace H := Option.bind_eq_some_iff.mp H
  obtain ⟨t264, A20, H⟩ := H
  replace H : ((text_Unquote.f k t264).bind fun bt265 => (if bt265.1.toList = a0.toList then (if bt265.2.1 = 0 then (if bt265.2.2 = 0 then (if (t264.size : Int) < 2 then (shardlaw1_TextComesBack.j0 k t264 true) else (if 0 < (t264.size : Int) then (if (bt t264 0) = 34 then (if 0 ≤ (wrap64 ((t264.size : Int) - 1)) then (if (wrap64 ((t264.size : Int) - 1)) < (t264.size : Int) then (shardlaw1_TextComesBack.j0 k t264 ((bt t264 (wrap64 ((t264.size : Int) - 1))) != 34)) else (none)) else (none)) else (shardlaw1_TextComesBack.j0 k t264 true)) else (none))) else (shardlaw1_TextComesBack.j0 k t264 true)) else (shardlaw1_TextComesBack.j0 k t264 true)) else (shardlaw1_TextComesBack.j0 k t264 true))) = some r := H
  have A2 := Aside0.mk A20
  clear A20
  replace H := Option.bind_eq_some_iff.mp H
  obtain ⟨⟨t265, t266, t267⟩, A30, H⟩ := H
  replace H : (if t265.toList = a0.toList then (if t266 = 0 then (if t267 = 0 then (if (t264.size : Int) < 2 then (shardlaw1_TextComesBack.j0 k t264 true) else (if 0 < (t264.size : Int) then (if (bt t264 0) = 34 then (if 0 ≤ (wrap64 ((t264.size : Int) - 1)) then (if (wrap64 ((t264.size : Int) - 1)) < (t264.size : Int) then (shardlaw1_TextComesBack.j0 k t264 ((bt t264 (wrap64 ((t264.size : Int) - 1))) != 34)) else (none)) else (none)) else (shardlaw1_TextComesBack.j0 k t264 true)) else (none))) else (shardlaw1_TextComesBack.j0 k t264 true)) else (shardlaw1_TextComesBack.j0 k t264 true)) else (shardlaw1_TextComesBack.j0 k t264 true)) = some r := H
  have A3 := Aside0.mk A30
  clear A30
  have HC4 := Aside0.mk H
  clear H
  go_enter Tryd.func9, Tryd.ntmps9
  go_upto_region 3 with (first | ((with_reducible refine gate_callee (f := 24) rfl ?_); refine goesL_ (some 12) rfl rfl Tryd.func24 (by kernel_rfl) rfl #[.string a0] rfl (by (try simp only [List.map_toArray, List.map_cons, List.map_nil]); first | done | rfl | (simp only [List.length_drop, List.length_take]; rfl)) ?_; (with_reducible refine (text_Quote.calls k a0 t264 _ A2.out).mono ?_); rintro e w5 ⟨rfl, hb⟩; refine ⟨_, rfl, ?_⟩; have n0_ := Aside0.mk (below_step (by repeat (first | (with_reducible first | exact HB.out | apply below_alloc | apply pw_below_drewN | apply below_drew1) | exact HB.out)) hb); clear HB; have HB := n0_; clear n0_; (try clear hb); (try clear hb2); (try clear hk); (try clear hi)) | ((with_reducible refine gate_callee (f := 16) rfl ?_); refine goesL_ (some 15) rfl rfl Tryd.func16 (by kernel_rfl) rfl #[.string t264] rfl (by (try simp only [List.map_toArray, List.map_cons, List.map_nil]); first | done | rfl | (simp only [List.length_drop, List.length_take]; rfl)) ?_; (with_reducible refine (text_Unquote.calls k t264 t265 t266 t267 _ ?side1 A3.out).mono ?_); (case side1 => exact glob_utf8.below HG_utf8.out (by repeat (first | (with_reducible first | exact HB.out | apply below_alloc | apply pw_below_drewN | apply below_drew1) | exact HB.out))); rintro e w6 ⟨rfl, hb⟩; refine ⟨_, rfl, ?_⟩; have n0_ := Aside0.mk (below_step (by repeat (first | (with_reducible first | exact HB.out | apply below_alloc | apply pw_below_drewN | apply below_drew1) | exact HB.out)) hb); clear HB; have HB := n0_; clear n0_; (try clear hb); (try clear hb2); (try clear hk); (try clear hi)))
  (try simp only [Act.put, List.setIfInBounds_toArray, List.set_cons_zero, List.set_cons_succ])
  go_cut [47] (fun v47 wc => ∃ (kq : Nat) (x47_3 : Bool), v47 = .bool x47_3 ∧ Aside0 (shardlaw1_TextComesBack.j0 kq t264 x47_3 = some r) ∧ Aside0 (kq ≤ k) ∧ Aside0 (Below w.heap.size w wc))
  case first =>
    have H := HC4.out
    clear HC4
    by_cases c7 : t265.toList = a0.toList
    · rw [if_pos c7] at H
      have c7b0 : (t265.toList == a0.toList) = true := beq_iff_eq.mpr c7
      have c7b1 : (t265.toList != a0.toList) = false := bne_eq_false_iff_eq.mpr c7
      clear c7
      (first | rw [c7b0] | (simp only [i64_w, i32_w]; rw [c7b0]) | skip)
      by_cases c8 : t266 = 0
      · rw [if_pos c8] at H
        have c8b0 : (t266 == 0) = true := beq_iff_eq.mpr c8
        have c8b1 : (t266 != 0) = false := bne_eq_false_iff_eq.mpr c8
        clear c8
        by_cases c9 : t267 = 0
        · rw [if_pos c9] at H
          have c9b0 : (t267 == 0) = true := beq_iff_eq.mpr c9
          have c9b1 : (t267 != 0) = false := bne_eq_false_iff_eq.mpr c9
          clear c9
          by_cases c10 : (t264.size : Int) < 2
          · rw [if_pos c10] at H
            have c10b0 : decide ((t264.size : Int) < 2) = true := decide_eq_true c10
            have c10b1 : decide (t264.size < 2) = true := decide_eq_true (by omega)
            clear c10
            have H' := Aside0.mk H
            clear H
            go_wp2
            go_meet
            case rel => exact ⟨_, (true), (by first | rfl | (simp; done) | (simp [*]; done)), H', ⟨by first | omega | exact Nat.le_refl _⟩, ⟨by repeat (first | (with_reducible first | exact HB.out | apply below_alloc | apply pw_below_drewN | apply below_drew1) | exact HB.out)⟩⟩
          · rw [if_neg c10] at H
            have c10b0 : decide ((t264.size : Int) < 2) = false := decide_eq_false c10
            have c10b1 : decide (t264.size < 2) = false := decide_eq_false (by omega)
            clear c10
            by_cases c11 : 0 < (t264.size : Int)
            · rw [if_pos c11] at H
              have c11b0 : decide (0 < (t264.size : Int)) = true := decide_eq_true c11
              have c11b1 : decide (0 < t264.size) = true := decide_eq_true (by omega)
              clear c11
              by_cases c13 : (bt t264 0) = 34
              · rw [if_pos c13] at H
                have c13b0 : ((bt t264 0) == 34) = true := beq_iff_eq.mpr c13
                have c13b1 : ((bt t264 0) != 34) = false := bne_eq_false_iff_eq.mpr c13
                clear c13
                obtain ⟨ji14, hji14⟩ : ∃ j_ : Int, (wrap64 ((t264.size : Int) - 1)) = j_ := ⟨_, rfl⟩
                replace H : (if 0 ≤ (ji14) then (if (ji14) < (t264.size : Int) then (shardlaw1_TextComesBack.j0 k t264 ((bt t264 (ji14)) != 34)) else (none)) else (none)) = some r := by first | (rw [hji14] at H; exact H) | (simp only [hji14] at H ⊢; exact H)
                have hji14w : (IntKind.i64.wrap ((t264.size : Int) - 1)) = ji14 := (i64_w _).trans hji14
                by_cases c15 : 0 ≤ (ji14)
                · rw [if_pos c15] at H
                  have c15b0 : decide (0 ≤ (ji14)) = true := decide_eq_true c15
                  clear c15
                  by_cases c16 : (ji14) < (t264.size : Int)
                  · rw [if_pos c16] at H
                    have c16b0 : decide ((ji14) < (t264.size : Int)) = true := decide_eq_true c16
                    clear c16
                    have H' := Aside0.mk H
                    clear H
                    have p12 : 0 ≤ (0 : Int) := (by omega)
                    have q12 : 0 < t264.size := (by have : (0 : Int) < (t264.size : Int) := of_decide_eq_true (by first | (with_reducible assumption) | assumption); omega)
                    have hx12 : ∀ h : 0 < t264.size, ((t264[0]'h).toNat : Int) = bt t264 0 := bt_at t264 0
                    clear p12
                    have qi12 : (0 < (t264.size : Int)) = True := eq_true (of_decide_eq_true (by first | (with_reducible assumption) | assumption))
                    replace q12 := eq_true q12
                    have p17 : 0 ≤ ((ji14) : Int) := of_decide_eq_true (by first | (with_reducible assumption) | assumption)
                    have q17 : (ji14) < (t264.size : Int) := of_decide_eq_true (by first | (with_reducible assumption) | assumption)
                    have hx17 := bt_at t264 (ji14)
                    replace p17 := eq_true p17
                    replace q17 := eq_true q17
                    go_wp2
                    go_meet
                    case rel => exact ⟨_, (((bt t264 (ji14)) != 34)), (by first | rfl | (simp; done) | (simp only [← hji14] <;> (first | rfl | simp)) | (simp [*]; done)), H', ⟨by first | omega | exact Nat.le_refl _⟩, ⟨by repeat (first | (with_reducible first | exact HB.out | apply below_alloc | apply pw_below_drewN | apply below_drew1) | exact HB.out)⟩⟩
                  · rw [if_neg c16] at H
                    exact absurd H (by simp)
                · rw [if_neg c15] at H
                  exact absurd H (by simp)
              · rw [if_neg c13] at H
                have c13b0 : ((bt t264 0) == 34) = false := beq_eq_false_iff_ne.mpr c13
                have c13b1 : ((bt t264 0) != 34) = true := bne_iff_ne.mpr c13
                have H' := Aside0.mk H
                clear H
                have p12 : 0 ≤ (0 : Int) := (by omega)
                have q12 : 0 < t264.size := (by have : (0 : Int) < (t264.size : Int) := of_decide_eq_true (by first | (with_reducible assumption) | assumption); omega)
                have hx12 : ∀ h : 0 < t264.size, ((t264[0]'h).toNat : Int) = bt t264 0 := bt_at t264 0
                clear p12
                have qi12 : (0 < (t264.size : Int)) = True := eq_true (of_decide_eq_true (by first | (with_reducible assumption) | assumption))
                replace q12 := eq_true q12
                go_wp2
                go_meet
                case rel => exact ⟨_, (true), (by first | rfl | (simp; done) | (simp [*]; done)), H', ⟨by first | omega | exact Nat.le_refl _⟩, ⟨by repeat (first | (with_reducible first | exact HB.out | apply below_alloc | apply pw_below_drewN | apply below_drew1) | exact HB.out)⟩⟩
            · rw [if_neg c11] at H
              exact absurd H (by simp)
        · rw [if_neg c9] at H
          have c9b0 : (t267 == 0) = false := beq_eq_false_iff_ne.mpr c9
          have c9b1 : (t267 != 0) = true := bne_iff_ne.mpr c9
          have H' := Aside0.mk H
          clear H
          go_wp2
          go_meet
          case rel => exact ⟨_, (true), (by first | rfl | (simp; done) | (simp [*]; done)), H', ⟨by first | omega | exact Nat.le_refl _⟩, ⟨by repeat (first | (with_reducible first | exact HB.out | apply below_alloc | apply pw_below_drewN | apply below_drew1) | exact HB.out)⟩⟩
      · rw [if_neg c8] at H
        have c8b0 : (t266 == 0) = false := beq_eq_false_iff_ne.mpr c8
        have c8b1 : (t266 != 0) = true := bne_iff_ne.mpr c8
        have H' := Aside0.mk H
        clear H
        go_wp2
        go_meet
        case rel => exact ⟨_, (true), (by first | rfl | (simp; done) | (simp [*]; done)), H', ⟨by first | omega | exact Nat.le_refl _⟩, ⟨by repeat (first | (with_reducible first | exact HB.out | apply below_alloc | apply pw_below_drewN | apply below_drew1) | exact HB.out)⟩⟩
    · rw [if_neg c7] at H
      have c7b0 : (t265.toList == a0.toList) = false := beq_eq_false_iff_ne.mpr c7
      have c7b1 : (t265.toList != a0.toList) = true := bne_iff_ne.mpr c7
      (first | rw [c7b0] | (simp only [i64_w, i32_w]; rw [c7b0]) | skip)
      have H' := Aside0.mk H
      clear H
      go_wp2
      go_meet
      case rel => exact ⟨_, (true), (by first | rfl | (simp; done) | (simp [*]; done)), H', ⟨by first | omega | exact Nat.le_refl _⟩, ⟨by repeat (first | (with_reducible first | exact HB.out | apply below_alloc | apply pw_below_drewN | apply below_drew1) | exact HB.out)⟩⟩
  case rest =>
    clear HC4
    try clear c1
    try clear p1
    try clear q1
    try clear hx1
    try clear qi1
    try clear c2
    try clear p2
    try clear p6
    try clear c7
    try clear c7b0
    try clear c7b1
    try clear c8
    try clear c8b0
    try clear c8b1
    try clear c9
    try clear c9b0
    try clear c9b1
    try clear c10
    try clear c10b0
    try clear c10b1
    try clear c11
    try clear c11b0
    try clear c11b1
    try clear p12
    try clear q12
    try clear hx12
    try clear qi12
    try clear c13
    try clear c13b0
    try clear c13b1
    try clear c15
    try clear c15b0
    try clear c16
    try clear c16b0
    try clear p17
    try clear q17
    try clear hx17
    try clear p12
    try clear p17
    try clear q12
    try clear q17
    obtain ⟨kq, x47_3, rfl, HA, HJ3, HB⟩ := hcut
    cases kq with
    | zero => exact absurd HA.out (by simp [shardlaw1_TextComesBack.j0])
    | succ kj3 =>
      have H := HA.out
      clear HA
      simp only [shardlaw1_TextComesBack.j0] at H
      by_cases c18 : x47_3 = true
      · subst c18
        have H1 : (some false) = some r := by rw [if_pos rfl] at H; exact H
        clear H
        have H := H1
        clear H1
        obtain rfl := Option.some.inj H
        go_wp2
        go_ret
        exact ⟨by first | rfl | (simp [errW_none, errW_some] <;> rfl) | (simp [*, errW_none, errW_some] <;> rfl), by repeat (first | (with_reducible first | exact HB.out | apply below_alloc | apply pw_below_drewN | apply below_drew1) | exact HB.out)⟩
      · replace c18 := Bool.eq_false_iff.mpr c18
        subst c18
        have H1 : ((text_Pieces.f t264).bind fun t268 => (shardlaw1_TextComesBack.l0 kj3 t264 t268 0 0)) = some r := by rw [if_neg (show ¬ (false = true) by decide)] at H; exact H
        clear H
        have H := H1
        clear H1
        replace H := Option.bind_eq_some_iff.mp H
        obtain ⟨t268, A190, H⟩ := H
        replace H : (shardlaw1_TextComesBack.l0 kj3 t264 t268 0 0) = some r := H
        have A19 := Aside0.mk A190
        clear A190
        have H' := Aside0.mk H
        clear H
        go_wp2_with (first | ((with_reducible refine gate_callee (f := 25) rfl ?_); refine goesL_ (some 49) rfl rfl Tryd.func25 (by kernel_rfl) rfl #[.string t264] rfl (by (try simp only [List.map_toArray, List.map_cons, List.map_nil]); first | done | rfl | (simp only [List.length_drop, List.length_take]; rfl)) ?_; (with_reducible refine (text_Pieces.calls t264 t268 _ A19.out).mono ?_); rintro e w20 ⟨v269, rfl, ho0, hb⟩; refine ⟨_, rfl, ?_⟩; have n0_ := Aside0.mk (Kd.R_lower ho0 (below_size (by repeat (first | (with_reducible first | exact HB.out | apply below_alloc | apply pw_below_drewN | apply below_drew1) | exact HB.out)))); have n1_ := Aside0.mk (below_step (by repeat (first | (with_reducible first | exact HB.out | apply below_alloc | apply pw_below_drewN | apply below_drew1) | exact HB.out)) hb); clear HB; have HO270 := n0_; have HB := n1_; clear n0_ n1_; (try clear hb); (try clear hb2); (try clear hk); (try clear hi); (try clear ho0)))
        go_loopg [8, 9] kj3 (fun kq v8 v9 w' => ∃ (x8_2 : Int) (x9_2 : Int), v8 = .int .i64 x8_2 ∧ v9 = .int .i64 x9_2 ∧ Aside0 (shardlaw1_TextComesBack.l0 kq t264 t268 x8_2 x9_2 = some r) ∧ Aside0 (kq ≤ kj3) ∧ Aside0 (Kd.R k53 53 w' w.heap.size (fun _ => True) v269 t268) ∧ Aside0 (Below w.heap.size w w'))
        case atStart => exact ⟨(0), (0), (by first | rfl | (simp; done) | (simp [*]; done)), (by first | rfl | (simp; done) | (simp [*]; done)), H', ⟨Nat.le_refl _⟩, ⟨by (with_reducible repeat (first | apply Kd.R_alloc | apply Kd.R_drewN | apply Kd.R_drew)); exact HO270.out⟩, ⟨by repeat (first | (with_reducible first | exact HB.out | apply below_alloc | apply pw_below_drewN | apply below_drew1) | exact HB.out)⟩⟩
        case round =>
          clear H'
          try clear c1
          try clear p1
          try clear q1
          try clear hx1
          try clear qi1
          try clear c2
          try clear p2
          try clear p6
          try clear c7
          try clear c7b0
          try clear c7b1
          try clear c8
          try clear c8b0
          try clear c8b1
          try clear c9
          try clear c9b0
          try clear c9b1
          try clear c10
          try clear c10b0
          try clear c10b1
          try clear c11
          try clear c11b0
          try clear c11b1
          try clear p12
          try clear q12
          try clear hx12
          try clear qi12
          try clear c13
          try clear c13b0
          try clear c13b1
          try clear c15
          try clear c15b0
          try clear c16
          try clear c16b0
          try clear p17
          try clear q17
          try clear hx17
          try clear c18
          try clear p1
          try clear p12
          try clear p17
          try clear p2
          try clear p6
          try clear q1
          try clear q12
          try clear q17
          obtain ⟨x8_2, x9_2, rfl, rfl, HA, HK2, HO_7, HB⟩ := hrel
          cases gk with
          | zero => exact absurd HA.out (by simp [shardlaw1_TextComesBack.l0])
          | succ k2 =>
            have H := HA.out
            clear HA
            simp only [shardlaw1_TextComesBack.l0] at H
            by_cases c21 : x9_2 < (t268.length : Int)
            · rw [if_pos c21] at H
              have c21b0 : decide (x9_2 < (t268.length : Int)) = true := decide_eq_true c21
              clear c21
              by_cases c22 : 0 ≤ x9_2
              · rw [if_pos c22] at H
                have c22b0 : decide (0 ≤ x9_2) = true := decide_eq_true c22
                clear c22
                replace H := Option.bind_eq_some_iff.mp H
                obtain ⟨t272, A230, H⟩ := H
                replace H : (if (rd_T53 t268 x9_2).f3 = true then (some false) else (if t272 = true then (if ((rd_T53 t268 x9_2).f1) = x8_2 then (shardlaw1_TextComesBack.l0 k2 t264 t268 (wrap64 (x8_2 + ((rd_T53 t268 x9_2).f2))) (wrap64 (x9_2 + 1))) else (some false)) else (some false))) = some r := H
                have A23 := Aside0.mk A230
                clear A230
                obtain ⟨bq24, hbq24⟩ : ∃ b_ : Bool, b_ = ((rd_T53 t268 x9_2).f3) := ⟨_, rfl⟩
                replace H : (if bq24 = true then (some false) else (if t272 = true then (if ((rd_T53 t268 x9_2).f1) = x8_2 then (shardlaw1_TextComesBack.l0 k2 t264 t268 (wrap64 (x8_2 + ((rd_T53 t268 x9_2).f2))) (wrap64 (x9_2 + 1))) else (some false)) else (some false))) = some r := by rw [← hbq24] at H; exact H
                have Nbq24 := Aside0.mk hbq24
                clear hbq24
                by_cases c25 : bq24 = true
                · subst c25
                  have H1 : (some false) = some r := by rw [if_pos rfl] at H; exact H
                  clear H
                  have H := H1
                  clear H1
                  obtain rfl := Option.some.inj H
                  obtain ⟨Ao26, co26, eo26⟩ := Kd.R_slice HO_7.out
                  subst eo26
                  have p271 : 0 ≤ (x9_2 : Int) := of_decide_eq_true (by first | (with_reducible assumption) | assumption)
                  have q271 : x9_2 < (t268.length : Int) := of_decide_eq_true (by first | (with_reducible assumption) | assumption)
                  obtain ⟨ad271, e271, hx271_0, hx271_1, hx271_2, hx271_3⟩ := at_T53 (Kd.R_reads' HO_7.out).2.2 x9_2 p271 q271
                  (try rw [← Nbq24.out] at hx271_3)
                  cases e271
                  replace p271 := eq_true p271
                  replace q271 := eq_true q271
                  go_wp2_with (first | ((with_reducible refine gate_callee (f := 26) rfl ?_); refine goesL_ (some 61) rfl rfl Tryd.func26 (by kernel_rfl) rfl #[.int .i32 ((rd_T53 t268 x9_2).f0)] rfl (by (try simp only [List.map_toArray, List.map_cons, List.map_nil]); first | done | rfl | (simp only [List.length_drop, List.length_take]; rfl)) ?_; (with_reducible refine (text_Plain.calls k2 ((rd_T53 t268 x9_2).f0) t272 _ A23.out).mono ?_); rintro e w27 ⟨rfl, hb⟩; refine ⟨_, rfl, ?_⟩; have n0_ := Aside0.mk (Kd.R_below (by (with_reducible repeat (first | apply Kd.R_alloc | apply Kd.R_drewN | apply Kd.R_drew)); exact HO_7.out) hb); have n1_ := Aside0.mk (below_step (by repeat (first | (with_reducible first | exact HB.out | apply below_alloc | apply pw_below_drewN | apply below_drew1) | exact HB.out)) hb); clear HO_7; clear HB; have HO_7 := n0_; have HB := n1_; clear n0_ n1_; (try clear hb); (try clear hb2); (try clear hk); (try clear hi); have p273 : 0 ≤ (x9_2 : Int) := of_decide_eq_true (by first | (with_reducible assumption) | assumption); have q273 : x9_2 < (t268.length : Int) := of_decide_eq_true (by first | (with_reducible assumption) | assumption); obtain ⟨ad273, e273, hx273_0, hx273_1, hx273_2, hx273_3⟩ := at_T53 (Kd.R_reads' HO_7.out).2.2 x9_2 p273 q273; (try rw [← Nbq24.out] at hx273_3); obtain rfl : ad271 = ad273 := (by injection e273); replace p273 := eq_true p273; replace q273 := eq_true q273))
                  go_ret
                  exact ⟨by first | rfl | (simp [errW_none, errW_some] <;> rfl) | (simp [*, errW_none, errW_some] <;> rfl), by repeat (first | (with_reducible first | exact HB.out | apply below_alloc | apply pw_below_drewN | apply below_drew1) | exact HB.out)⟩
                · replace c25 := Bool.eq_false_iff.mpr c25
                  subst c25
                  have H1 : (if t272 = true then (if ((rd_T53 t268 x9_2).f1) = x8_2 then (shardlaw1_TextComesBack.l0 k2 t264 t268 (wrap64 (x8_2 + ((rd_T53 t268 x9_2).f2))) (wrap64 (x9_2 + 1))) else (some false)) else (some false)) = some r := by rw [if_neg (show ¬ (false = true) by decide)] at H; exact H
                  clear H
                  have H := H1
                  clear H1
                  by_cases c28 : t272 = true
                  · subst c28
                    have H1 : (if ((rd_T53 t268 x9_2).f1) = x8_2 then (shardlaw1_TextComesBack.l0 k2 t264 t268 (wrap64 (x8_2 + ((rd_T53 t268 x9_2).f2))) (wrap64 (x9_2 + 1))) else (some false)) = some r := by rw [if_pos rfl] at H; exact H
                    clear H
                    have H := H1
                    clear H1
                    by_cases c29 : ((rd_T53 t268 x9_2).f1) = x8_2
                    · rw [if_pos c29] at H
                      have c29b0 : (((rd_T53 t268 x9_2).f1) == x8_2) = true := beq_iff_eq.mpr c29
                      have c29b1 : (((rd_T53 t268 x9_2).f1) != x8_2) = false := bne_eq_false_iff_eq.mpr c29
                      clear c29
                      have H' := Aside0.mk H
                      clear H
                      obtain ⟨Ao30, co30, eo30⟩ := Kd.R_slice HO_7.out
                      subst eo30
                      have p271 : 0 ≤ (x9_2 : Int) := of_decide_eq_true (by first | (with_reducible assumption) | assumption)
                      have q271 : x9_2 < (t268.length : Int) := of_decide_eq_true (by first | (with_reducible assumption) | assumption)
                      obtain ⟨ad271, e271, hx271_0, hx271_1, hx271_2, hx271_3⟩ := at_T53 (Kd.R_reads' HO_7.out).2.2 x9_2 p271 q271
                      (try rw [← Nbq24.out] at hx271_3)
                      cases e271
                      replace p271 := eq_true p271
                      replace q271 := eq_true q271
                      go_wp2_with (first | ((with_reducible refine gate_callee (f := 26) rfl ?_); refine goesL_ (some 61) rfl rfl Tryd.func26 (by kernel_rfl) rfl #[.int .i32 ((rd_T53 t268 x9_2).f0)] rfl (by (try simp only [List.map_toArray, List.map_cons, List.map_nil]); first | done | rfl | (simp only [List.length_drop, List.length_take]; rfl)) ?_; (with_reducible refine (text_Plain.calls k2 ((rd_T53 t268 x9_2).f0) true _ A23.out).mono ?_); rintro e w31 ⟨rfl, hb⟩; refine ⟨_, rfl, ?_⟩; have n0_ := Aside0.mk (Kd.R_below (by (with_reducible repeat (first | apply Kd.R_alloc | apply Kd.R_drewN | apply Kd.R_drew)); exact HO_7.out) hb); have n1_ := Aside0.mk (below_step (by repeat (first | (with_reducible first | exact HB.out | apply below_alloc | apply pw_below_drewN | apply below_drew1) | exact HB.out)) hb); clear HO_7; clear HB; have HO_7 := n0_; have HB := n1_; clear n0_ n1_; (try clear hb); (try clear hb2); (try clear hk); (try clear hi); have p273 : 0 ≤ (x9_2 : Int) := of_decide_eq_true (by first | (with_reducible assumption) | assumption); have q273 : x9_2 < (t268.length : Int) := of_decide_eq_true (by first | (with_reducible assumption) | assumption); obtain ⟨ad273, e273, hx273_0, hx273_1, hx273_2, hx273_3⟩ := at_T53 (Kd.R_reads' HO_7.out).2.2 x9_2 p273 q273; (try rw [← Nbq24.out] at hx273_3); obtain rfl : ad271 = ad273 := (by injection e273); replace p273 := eq_true p273; replace q273 := eq_true q273; have p274 : 0 ≤ (x9_2 : Int) := of_decide_eq_true (by first | (with_reducible assumption) | assumption); have q274 : x9_2 < (t268.length : Int) := of_decide_eq_true (by first | (with_reducible assumption) | assumption); obtain ⟨ad274, e274, hx274_0, hx274_1, hx274_2, hx274_3⟩ := at_T53 (Kd.R_reads' HO_7.out).2.2 x9_2 p274 q274; (try rw [← Nbq24.out] at hx274_3); obtain rfl : ad271 = ad274 := (by injection e274); replace p274 := eq_true p274; replace q274 := eq_true q274; have p275 : 0 ≤ (x9_2 : Int) := of_decide_eq_true (by first | (with_reducible assumption) | assumption); have q275 : x9_2 < (t268.length : Int) := of_decide_eq_true (by first | (with_reducible assumption) | assumption); obtain ⟨ad275, e275, hx275_0, hx275_1, hx275_2, hx275_3⟩ := at_T53 (Kd.R_reads' HO_7.out).2.2 x9_2 p275 q275; (try rw [← Nbq24.out] at hx275_3); obtain rfl : ad271 = ad275 := (by injection e275); replace p275 := eq_true p275; replace q275 := eq_true q275))
                      go_roundg k2
                      case measure => have := HJ3.out; have := HK2.out; omega
                      case rel => exact ⟨(wrap64 (x8_2 + ((rd_T53 t268 x9_2).f2))), (wrap64 (x9_2 + 1)), (by first | rfl | (simp; done) | (simp [*]; done)), (by first | rfl | (simp; done) | (simp [*]; done)), H', ⟨by have := HJ3.out; have := HK2.out; omega⟩, ⟨by (with_reducible repeat (first | apply Kd.R_alloc | apply Kd.R_drewN | apply Kd.R_drew)); exact HO_7.out⟩, ⟨by repeat (first | (with_reducible first | exact HB.out | apply below_alloc | apply pw_below_drewN | apply below_drew1) | exact HB.out)⟩⟩
                    · rw [if_neg c29] at H
                      have c29b0 : (((rd_T53 t268 x9_2).f1) == x8_2) = false := beq_eq_false_iff_ne.mpr c29
                      have c29b1 : (((rd_T53 t268 x9_2).f1) != x8_2) = true := bne_iff_ne.mpr c29
                      obtain rfl := Option.some.inj H
                      obtain ⟨Ao32, co32, eo32⟩ := Kd.R_slice HO_7.out
                      subst eo32
                      have p271 : 0 ≤ (x9_2 : Int) := of_decide_eq_true (by first | (with_reducible assumption) | assumption)
                      have q271 : x9_2 < (t268.length : Int) := of_decide_eq_true (by first | (with_reducible assumption) | assumption)
                      obtain ⟨ad271, e271, hx271_0, hx271_1, hx271_2, hx271_3⟩ := at_T53 (Kd.R_reads' HO_7.out).2.2 x9_2 p271 q271
                      (try rw [← Nbq24.out] at hx271_3)
                      cases e271
                      replace p271 := eq_true p271
                      replace q271 := eq_true q271
                      go_wp2_with (first | ((with_reducible refine gate_callee (f := 26) rfl ?_); refine goesL_ (some 61) rfl rfl Tryd.func26 (by kernel_rfl) rfl #[.int .i32 ((rd_T53 t268 x9_2).f0)] rfl (by (try simp only [List.map_toArray, List.map_cons, List.map_nil]); first | done | rfl | (simp only [List.length_drop, List.length_take]; rfl)) ?_; (with_reducible refine (text_Plain.calls k2 ((rd_T53 t268 x9_2).f0) true _ A23.out).mono ?_); rintro e w33 ⟨rfl, hb⟩; refine ⟨_, rfl, ?_⟩; have n0_ := Aside0.mk (Kd.R_below (by (with_reducible repeat (first | apply Kd.R_alloc | apply Kd.R_drewN | apply Kd.R_drew)); exact HO_7.out) hb); have n1_ := Aside0.mk (below_step (by repeat (first | (with_reducible first | exact HB.out | apply below_alloc | apply pw_below_drewN | apply below_drew1) | exact HB.out)) hb); clear HO_7; clear HB; have HO_7 := n0_; have HB := n1_; clear n0_ n1_; (try clear hb); (try clear hb2); (try clear hk); (try clear hi); have p273 : 0 ≤ (x9_2 : Int) := of_decide_eq_true (by first | (with_reducible assumption) | assumption); have q273 : x9_2 < (t268.length : Int) := of_decide_eq_true (by first | (with_reducible assumption) | assumption); obtain ⟨ad273, e273, hx273_0, hx273_1, hx273_2, hx273_3⟩ := at_T53 (Kd.R_reads' HO_7.out).2.2 x9_2 p273 q273; (try rw [← Nbq24.out] at hx273_3); obtain rfl : ad271 = ad273 := (by injection e273); replace p273 := eq_true p273; replace q273 := eq_true q273; have p274 : 0 ≤ (x9_2 : Int) := of_decide_eq_true (by first | (with_reducible assumption) | assumption); have q274 : x9_2 < (t268.length : Int) := of_decide_eq_true (by first | (with_reducible assumption) | assumption); obtain ⟨ad274, e274, hx274_0, hx274_1, hx274_2, hx274_3⟩ := at_T53 (Kd.R_reads' HO_7.out).2.2 x9_2 p274 q274; (try rw [← Nbq24.out] at hx274_3); obtain rfl : ad271 = ad274 := (by injection e274); replace p274 := eq_true p274; replace q274 := eq_true q274))
                      go_ret
                      exact ⟨by first | rfl | (simp [errW_none, errW_some] <;> rfl) | (simp [*, errW_none, errW_some] <;> rfl), by repeat (first | (with_reducible first | exact HB.out | apply below_alloc | apply pw_below_drewN | apply below_drew1) | exact HB.out)⟩
                  · replace c28 := Bool.eq_false_iff.mpr c28
                    subst c28
                    have H1 : (some false) = some r := by rw [if_neg (show ¬ (false = true) by decide)] at H; exact H
                    clear H
                    have H := H1
                    clear H1
                    obtain rfl := Option.some.inj H
                    obtain ⟨Ao34, co34, eo34⟩ := Kd.R_slice HO_7.out
                    subst eo34
                    have p271 : 0 ≤ (x9_2 : Int) := of_decide_eq_true (by first | (with_reducible assumption) | assumption)
                    have q271 : x9_2 < (t268.length : Int) := of_decide_eq_true (by first | (with_reducible assumption) | assumption)
                    obtain ⟨ad271, e271, hx271_0, hx271_1, hx271_2, hx271_3⟩ := at_T53 (Kd.R_reads' HO_7.out).2.2 x9_2 p271 q271
                    (try rw [← Nbq24.out] at hx271_3)
                    cases e271
                    replace p271 := eq_true p271
                    replace q271 := eq_true q271
                    go_wp2_with (first | ((with_reducible refine gate_callee (f := 26) rfl ?_); refine goesL_ (some 61) rfl rfl Tryd.func26 (by kernel_rfl) rfl #[.int .i32 ((rd_T53 t268 x9_2).f0)] rfl (by (try simp only [List.map_toArray, List.map_cons, List.map_nil]); first | done | rfl | (simp only [List.length_drop, List.length_take]; rfl)) ?_; (with_reducible refine (text_Plain.calls k2 ((rd_T53 t268 x9_2).f0) false _ A23.out).mono ?_); rintro e w35 ⟨rfl, hb⟩; refine ⟨_, rfl, ?_⟩; have n0_ := Aside0.mk (Kd.R_below (by (with_reducible repeat (first | apply Kd.R_alloc | apply Kd.R_drewN | apply Kd.R_drew)); exact HO_7.out) hb); have n1_ := Aside0.mk (below_step (by repeat (first | (with_reducible first | exact HB.out | apply below_alloc | apply pw_below_drewN | apply below_drew1) | exact HB.out)) hb); clear HO_7; clear HB; have HO_7 := n0_; have HB := n1_; clear n0_ n1_; (try clear hb); (try clear hb2); (try clear hk); (try clear hi); have p273 : 0 ≤ (x9_2 : Int) := of_decide_eq_true (by first | (with_reducible assumption) | assumption); have q273 : x9_2 < (t268.length : Int) := of_decide_eq_true (by first | (with_reducible assumption) | assumption); obtain ⟨ad273, e273, hx273_0, hx273_1, hx273_2, hx273_3⟩ := at_T53 (Kd.R_reads' HO_7.out).2.2 x9_2 p273 q273; (try rw [← Nbq24.out] at hx273_3); obtain rfl : ad271 = ad273 := (by injection e273); replace p273 := eq_true p273; replace q273 := eq_true q273))
                    go_ret
                    exact ⟨by first | rfl | (simp [errW_none, errW_some] <;> rfl) | (simp [*, errW_none, errW_some] <;> rfl), by repeat (first | (with_reducible first | exact HB.out | apply below_alloc | apply pw_below_drewN | apply below_drew1) | exact HB.out)⟩
              · rw [if_neg c22] at H
                exact absurd H (by simp)
            · rw [if_neg c21] at H
              have c21b0 : decide (x9_2 < (t268.length : Int)) = false := decide_eq_false c21
              clear c21
              obtain rfl := Option.some.inj H
              obtain ⟨Ao36, co36, eo36⟩ := Kd.R_slice HO_7.out
              subst eo36
              go_wp2
              go_ret
              exact ⟨by first | rfl | (simp [errW_none, errW_some] <;> rfl) | (simp [*, errW_none, errW_some] <;> rfl), by repeat (first | (with_reducible first | exact HB.out | apply below_alloc | apply pw_below_drewN | apply below_drew1) | exact HB.out)⟩

/-- THE ONE PURE STATEMENT of shardlaw1_TextComesBack: yours. -/
def shardlaw1_TextComesBack.Pure : Prop := ∀ (a0 : ByteArray), a0.size ≤ 140737488351232 → ∃ k, shardlaw1_TextComesBack.f k a0 = some true

end Go.Proofs.YtplhcnlpfoiieaaDoor.P
