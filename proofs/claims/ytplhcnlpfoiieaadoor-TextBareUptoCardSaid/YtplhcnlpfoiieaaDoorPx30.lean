-- Written by printx.py (this work's driver over the kit's print) out of the translation; Lean checks it.
import Derived.Test.YtplhcnlpfoiieaaDoorPx0
import Derived.Test.YtplhcnlpfoiieaaDoorPx12
import Derived.Test.YtplhcnlpfoiieaaDoorPx19
import Derived.Test.YtplhcnlpfoiieaaDoorPx29
namespace Go.Proofs.YtplhcnlpfoiieaaDoor.P
open Go.RowKit Go.Proofs.YtplhcnlpfoiieaaDoorW.PrintWords Go.Proofs.YtplhcnlpfoiieaaDoorW.PrintLast Go.Proofs.YtplhcnlpfoiieaaDoorW.PrintMore
attribute [local go_sem] max2_int min2_int max_two min_two max_three min_three max_four min_four   -- for this text's walks alone
set_option linter.unusedVariables false
set_option linter.unusedSimpArgs false

/-! ### shardlaw1_TextBare: function 11 -/
mutual
def shardlaw1_TextBare.j0 : Nat → ByteArray → ByteArray → Int → Bool → Option (Bool)
  | 0, _, _, _, _ => none
  | k + 1, x0, x3, x5, x9 => (text_Join.f k (([(⟨(⟨#[103, 101, 116]⟩ : ByteArray), false, 0⟩ : S45), (⟨x0, true, 0⟩ : S45)] : List (S45)))).bind fun bt420 => (if bt420.2.2 = 0 then (if (bt420.1.size : Int) < 6 then (shardlaw1_TextBare.j1 k x0 x3 x5 x9 bt420.2.2 true) else (if 0 ≤ 5 then (if 5 ≤ (bt420.1.size : Int) then (shardlaw1_TextBare.j1 k x0 x3 x5 x9 bt420.2.2 ((bt420.1.extract 0 5).toList != ([103, 101, 116, 32, 34] : List UInt8))) else (none)) else (none))) else (shardlaw1_TextBare.j1 k x0 x3 x5 x9 bt420.2.2 false))
def shardlaw1_TextBare.j1 : Nat → ByteArray → ByteArray → Int → Bool → Int → Bool → Option (Bool)
  | 0, _, _, _, _, _, _ => none
  | k + 1, x0, x3, x5, x9, x12, x69 => if x69 = true then (some false) else (if x12 = 0 then (shardlaw1_TextBare.j2 k x0 x3 x5 x9 false) else (if (x0.size : Int) < 500 then (shardlaw1_TextBare.j2 k x0 x3 x5 x9 true) else (shardlaw1_TextBare.j2 k x0 x3 x5 x9 (x12 != 10))))
def shardlaw1_TextBare.j2 : Nat → ByteArray → ByteArray → Int → Bool → Bool → Option (Bool)
  | 0, _, _, _, _, _ => none
  | k + 1, x0, x3, x5, x9, x80 => if x80 = true then (some false) else (if x5 = 0 then (if x9 = true then (some (x3.toList == x0.toList)) else (some false)) else (if x9 = true then (some false) else (some (x3.toList == ([] : List UInt8)))))
end
def shardlaw1_TextBare.f (k : Nat) (a0 : ByteArray) : Option (Bool) := (text_Join.f k (([(⟨a0, false, 0⟩ : S45)] : List (S45)))).bind fun bt407 => ((text_Words.f k a0).bind fun bt410 => (if bt410.2.2 = 0 then (if (bt410.1.length : Int) = 1 then (if 0 < (bt410.1.length : Int) then (if ((rd_T45 bt410.1 0).f1 = true) then (shardlaw1_TextBare.j0 k a0 bt407.1 bt407.2.2 false) else (shardlaw1_TextBare.j0 k a0 bt407.1 bt407.2.2 (((rd_T45 bt410.1 0).f0).toList == a0.toList))) else (none)) else (shardlaw1_TextBare.j0 k a0 bt407.1 bt407.2.2 false)) else (shardlaw1_TextBare.j0 k a0 bt407.1 bt407.2.2 false)))
theorem shardlaw1_TextBare.mono_l : ∀ k, (∀ y0 y1 y2 y3, LeO (shardlaw1_TextBare.j0 k y0 y1 y2 y3) (shardlaw1_TextBare.j0 (k + 1) y0 y1 y2 y3)) ∧ (∀ y0 y1 y2 y3 y4 y5, LeO (shardlaw1_TextBare.j1 k y0 y1 y2 y3 y4 y5) (shardlaw1_TextBare.j1 (k + 1) y0 y1 y2 y3 y4 y5)) ∧ (∀ y0 y1 y2 y3 y4, LeO (shardlaw1_TextBare.j2 k y0 y1 y2 y3 y4) (shardlaw1_TextBare.j2 (k + 1) y0 y1 y2 y3 y4))
  | 0 => ⟨fun _ _ _ _ r h => by simp [shardlaw1_TextBare.j0] at h, fun _ _ _ _ _ _ r h => by simp [shardlaw1_TextBare.j1] at h, fun _ _ _ _ _ r h => by simp [shardlaw1_TextBare.j2] at h⟩
  | k + 1 => by
    obtain ⟨ih0, ih1, ih2⟩ := shardlaw1_TextBare.mono_l k
    refine ⟨?_, ?_, ?_⟩
    · intro y0 y1 y2 y3
      unfold shardlaw1_TextBare.j0
      repeat' first
      | (with_reducible exact ih0 _ _ _ _)
      | (with_reducible exact ih1 _ _ _ _ _ _)
      | (with_reducible exact ih2 _ _ _ _ _)
      | (with_reducible exact text_Join.mono _ _)
      | (with_reducible exact text_Words.mono _ _)
      | (with_reducible exact LeO.refl _)
      | (with_reducible exact LeO.none _)
      | (with_reducible refine LeO.ite ?_ ?_)
      | (with_reducible refine LeO.bind ?_ (fun _ => ?_))
      | exact ih0 _ _ _ _
      | exact ih1 _ _ _ _ _ _
      | exact ih2 _ _ _ _ _
      | exact text_Join.mono _ _
      | exact text_Words.mono _ _
      | exact LeO.none _
      | refine LeO.ite ?_ ?_
      | refine LeO.bind ?_ (fun _ => ?_)
    · intro y0 y1 y2 y3 y4 y5
      unfold shardlaw1_TextBare.j1
      repeat' first
      | (with_reducible exact ih0 _ _ _ _)
      | (with_reducible exact ih1 _ _ _ _ _ _)
      | (with_reducible exact ih2 _ _ _ _ _)
      | (with_reducible exact text_Join.mono _ _)
      | (with_reducible exact text_Words.mono _ _)
      | (with_reducible exact LeO.refl _)
      | (with_reducible exact LeO.none _)
      | (with_reducible refine LeO.ite ?_ ?_)
      | (with_reducible refine LeO.bind ?_ (fun _ => ?_))
      | exact ih0 _ _ _ _
      | exact ih1 _ _ _ _ _ _
      | exact ih2 _ _ _ _ _
      | exact text_Join.mono _ _
      | exact text_Words.mono _ _
      | exact LeO.none _
      | refine LeO.ite ?_ ?_
      | refine LeO.bind ?_ (fun _ => ?_)
    · intro y0 y1 y2 y3 y4
      unfold shardlaw1_TextBare.j2
      repeat' first
      | (with_reducible exact ih0 _ _ _ _)
      | (with_reducible exact ih1 _ _ _ _ _ _)
      | (with_reducible exact ih2 _ _ _ _ _)
      | (with_reducible exact text_Join.mono _ _)
      | (with_reducible exact text_Words.mono _ _)
      | (with_reducible exact LeO.refl _)
      | (with_reducible exact LeO.none _)
      | (with_reducible refine LeO.ite ?_ ?_)
      | (with_reducible refine LeO.bind ?_ (fun _ => ?_))
      | exact ih0 _ _ _ _
      | exact ih1 _ _ _ _ _ _
      | exact ih2 _ _ _ _ _
      | exact text_Join.mono _ _
      | exact text_Words.mono _ _
      | exact LeO.none _
      | refine LeO.ite ?_ ?_
      | refine LeO.bind ?_ (fun _ => ?_)
theorem shardlaw1_TextBare.mono : ∀ a0 k, LeO (shardlaw1_TextBare.f k a0) (shardlaw1_TextBare.f (k + 1) a0) := by
  intro a0 k
  obtain ⟨ih0, ih1, ih2⟩ := shardlaw1_TextBare.mono_l k
  unfold shardlaw1_TextBare.f
  repeat' first
      | (with_reducible exact ih0 _ _ _ _)
      | (with_reducible exact ih1 _ _ _ _ _ _)
      | (with_reducible exact ih2 _ _ _ _ _)
      | (with_reducible exact text_Join.mono _ _)
      | (with_reducible exact text_Words.mono _ _)
      | (with_reducible exact LeO.refl _)
      | (with_reducible exact LeO.none _)
      | (with_reducible refine LeO.ite ?_ ?_)
      | (with_reducible refine LeO.bind ?_ (fun _ => ?_))
      | exact ih0 _ _ _ _
      | exact ih1 _ _ _ _ _ _
      | exact ih2 _ _ _ _ _
      | exact text_Join.mono _ _
      | exact text_Words.mono _ _
      | exact LeO.none _
      | refine LeO.ite ?_ ?_
      | refine LeO.bind ?_ (fun _ => ?_)
set_option maxHeartbeats 8000000 in
set_option maxRecDepth 100000 in
theorem shardlaw1_TextBare.calls (k : Nat) (a0 : ByteArray) (r : Bool) (w : World) (hG_utf8 : glob_utf8 w) (h : shardlaw1_TextBare.f k a0 = some r) :
    Calls Tryd.prog 11 #[.string a0] w fun e w' => e = .returned (.bool r) ∧ Below w.heap.size w w' := by
  have hu45 := Tryd.underlying45
  have HG_utf8 := Aside0.mk hG_utf8
  clear hG_utf8
  have HB := Aside0.mk (Below.refl w.heap.size w)
  have H : ((text_Join.f k (([(⟨a0, false, 0⟩ : S45)] : List (S45)))).bind fun bt407 => ((text_Words.f k a0).bind fun bt410 => (if bt410.2.2 = 0 then (if (bt410.1.length : Int) = 1 then (if 0 < (bt410.1.length : Int) then (if ((rd_T45 bt410.1 0).f1 = true) then (shardlaw1_TextBare.j0 k a0 bt407.1 bt407.2.2 false) else (shardlaw1_TextBare.j0 k a0 bt407.1 bt407.2.2 (((rd_T45 bt410.1 0).f0).toList == a0.toList))) else (none)) else (shardlaw1_TextBare.j0 k a0 bt407.1 bt407.2.2 false)) else (shardlaw1_TextBare.j0 k a0 bt407.1 bt407.2.2 false)))) = some r := h
  clear h
  obtain ⟨y404, hy404⟩ : ∃ y_ : List (S45), y_ = (([(⟨a0, false, 0⟩ : S45)] : List (S45))) := ⟨_, rfl⟩
  replace H : ((text_Join.f k y404).bind fun bt407 => ((text_Words.f k a0).bind fun bt410 => (if bt410.2.2 = 0 then (if (bt410.1.length : Int) = 1 then (if 0 < (bt410.1.length : Int) then (if ((rd_T45 bt410.1 0).f1 = true) then (shardlaw1_TextBare.j0 k a0 bt407.1 bt407.2.2 false) else (shardlaw1_TextBare.j0 k a0 bt407.1 bt407.2.2 (((rd_T45 bt410.1 0).f0).toList == a0.toList))) else (none)) else (shardlaw1_TextBare.j0 k a0 bt407.1 bt407.2.2 false)) else (shardlaw1_TextBare.j0 k a0 bt407.1 bt407.2.2 false)))) = some r := by first | (rw [hy404]; with_reducible exact H) | (have H2_ := (Option.bind_some _ _).symm.trans H; rw [hy404]; with_reducible exact H2_) | (have H2_ := (Option.bind_some _ _).symm.trans H; with_reducible exact H2_) | with_reducible exact H | (rw [hy404]; exact H) | exact H
  have Ny404 := Aside0.mk hy404
  clear hy404
  replace H := Option.bind_eq_some_iff.mp H
  obtain ⟨⟨t407, t408, t409⟩, A20, H⟩ := H
  replace H : ((text_Words.f k a0).bind fun bt410 => (if bt410.2.2 = 0 then (if (bt410.1.length : Int) = 1 then (if 0 < (bt410.1.length : Int) then (if ((rd_T45 bt410.1 0).f1 = true) then (shardlaw1_TextBare.j0 k a0 t407 t409 false) else (shardlaw1_TextBare.j0 k a0 t407 t409 (((rd_T45 bt410.1 0).f0).toList == a0.toList))) else (none)) else (shardlaw1_TextBare.j0 k a0 t407 t409 false)) else (shardlaw1_TextBare.j0 k a0 t407 t409 false))) = some r := H
  have A2 := Aside0.mk A20
  clear A20
  replace H := Option.bind_eq_some_iff.mp H
  obtain ⟨⟨t410, t411, t412⟩, A30, H⟩ := H
  replace H : (if t412 = 0 then (if (t410.length : Int) = 1 then (if 0 < (t410.length : Int) then (if ((rd_T45 t410 0).f1 = true) then (shardlaw1_TextBare.j0 k a0 t407 t409 false) else (shardlaw1_TextBare.j0 k a0 t407 t409 (((rd_T45 t410 0).f0).toList == a0.toList))) else (none)) else (shardlaw1_TextBare.j0 k a0 t407 t409 false)) else (shardlaw1_TextBare.j0 k a0 t407 t409 false)) = some r := H
  have A3 := Aside0.mk A30
  clear A30
  have HC4 := Aside0.mk H
  clear H
  go_enter Tryd.func11, Tryd.ntmps11
  go_upto_region 3 with (first | ((with_reducible refine gate_dst (N := 16) rfl ?_); (try (refine gate_guard (by rfl) ?_; dsimp only)); refine Kd.R_lit k45 _ 45 ?hg (N := 16) ?hd (xs := ([(⟨a0, false, 0⟩ : S45)] : List (S45))) (inner := [.string a0, .bool false, .int .i64 0]) (ok := fun _ => True) (okp := fun _ => True) ?hr ?hp (fun _ hk => hk) trivial (Below.refl _ _) (Nat.le_refl _) (by simp) ?_; (case hd => rfl); (case hg => rfl); (case hr => first | (go_simp; done) | (go_simp; rfl)); (case hp => exact (Reps.c3 (show Kd.M k45 _ _ _ (⟨a0, false, 0⟩ : S45) [.string a0, .bool false, .int .i64 0] from (k45_mkM _ _ _ (⟨a0, false, 0⟩ : S45) )) (Reps.none _ _))); intro v405 w5 ho6 hb hg_ hnew_; clear hg_ hnew_; (first | rw [← Ny404.out] at ho6 | (simp only [Int.reduceToNat] at ho6; rw [← Ny404.out] at ho6)); have n0_ := Aside0.mk (Kd.R_lower ho6 (below_size (by repeat (first | (with_reducible first | exact HB.out | apply below_alloc | apply pw_below_drewN | apply below_drew1) | exact HB.out)))); have n1_ := Aside0.mk (below_step (by repeat (first | (with_reducible first | exact HB.out | apply below_alloc | apply pw_below_drewN | apply below_drew1) | exact HB.out)) hb); clear HB; have HO406 := n0_; have HB := n1_; clear n0_ n1_; clear hb ho6; obtain ⟨Ao7, co7, eo7⟩ := Kd.R_slice HO406.out; subst eo7) | ((with_reducible refine gate_callee (f := 27) rfl ?_); refine goesL_ (some 17) rfl rfl Tryd.func27 (by kernel_rfl) rfl #[.slice Ao7 y404.length co7] rfl (by (try simp only [List.map_toArray, List.map_cons, List.map_nil]); first | done | rfl | (simp only [List.length_drop, List.length_take]; rfl)) ?_; (with_reducible refine (text_Join.calls k _ _ y404 t407 t408 t409 _ ?side1 ?side2 A2.out).mono ?_); (case side1 => repeat (first | exact (Kd.R_reads' HO406.out).2.2 | (with_reducible refine Kd.C_alloc ?_ _) | (with_reducible refine Kd.C_drewN ?_ _) | (with_reducible refine Kd.C_drew ?_))); (case side2 => exact (Kd.R_reads' HO406.out).2.1); rintro e w8 ⟨rfl, hb⟩; refine ⟨_, rfl, ?_⟩; have n0_ := Aside0.mk (Kd.R_below (by (with_reducible repeat (first | apply Kd.R_alloc | apply Kd.R_drewN | apply Kd.R_drew)); exact HO406.out) hb); have n1_ := Aside0.mk (below_step (by repeat (first | (with_reducible first | exact HB.out | apply below_alloc | apply pw_below_drewN | apply below_drew1) | exact HB.out)) hb); clear HO406; clear HB; have HO406 := n0_; have HB := n1_; clear n0_ n1_; (try clear hb); (try clear hb2); (try clear hk); (try clear hi)) | ((with_reducible refine gate_callee (f := 21) rfl ?_); refine goesL_ (some 23) rfl rfl Tryd.func21 (by kernel_rfl) rfl #[.string a0] rfl (by (try simp only [List.map_toArray, List.map_cons, List.map_nil]); first | done | rfl | (simp only [List.length_drop, List.length_take]; rfl)) ?_; (with_reducible refine (text_Words.calls k a0 t410 t411 t412 _ ?side1 A3.out).mono ?_); (case side1 => exact glob_utf8.below HG_utf8.out (by repeat (first | (with_reducible first | exact HB.out | apply below_alloc | apply pw_below_drewN | apply below_drew1) | exact HB.out))); rintro e w9 ⟨v413, rfl, ho0, hb⟩; refine ⟨_, rfl, ?_⟩; have n0_ := Aside0.mk (Kd.R_elder' (by (with_reducible repeat (first | apply Kd.R_alloc | apply Kd.R_drewN | apply Kd.R_drew)); exact HO406.out) (Kd.R_base ho0) hb); have n1_ := Aside0.mk (Kd.R_lower (Kd.R_new' ho0 (Kd.R_lt (by (with_reducible repeat (first | apply Kd.R_alloc | apply Kd.R_drewN | apply Kd.R_drew)); exact HO406.out))) (below_size (by repeat (first | (with_reducible first | exact HB.out | apply below_alloc | apply pw_below_drewN | apply below_drew1) | exact HB.out)))); have n2_ := Aside0.mk (below_step (by repeat (first | (with_reducible first | exact HB.out | apply below_alloc | apply pw_below_drewN | apply below_drew1) | exact HB.out)) hb); clear HO406; clear HB; have HO406 := n0_; have HO414 := n1_; have HB := n2_; clear n0_ n1_ n2_; (try clear hb); (try clear hb2); (try clear hk); (try clear hi); (try clear ho0)))
  (try simp only [Act.put, List.setIfInBounds_toArray, List.set_cons_zero, List.set_cons_succ])
  go_cut [9] (fun v9 wc => ∃ (kq : Nat) (x9_3 : Bool), v9 = .bool x9_3 ∧ Aside0 (shardlaw1_TextBare.j0 kq a0 t407 t409 x9_3 = some r) ∧ Aside0 (kq ≤ k) ∧ Aside0 (Below w.heap.size w wc))
  case first =>
    have H := HC4.out
    clear HC4
    by_cases c10 : t412 = 0
    · rw [if_pos c10] at H
      have c10b0 : (t412 == 0) = true := beq_iff_eq.mpr c10
      have c10b1 : (t412 != 0) = false := bne_eq_false_iff_eq.mpr c10
      clear c10
      (first | rw [c10b0] | (simp only [i64_w, i32_w]; rw [c10b0]) | skip)
      by_cases c11 : (t410.length : Int) = 1
      · rw [if_pos c11] at H
        have c11b0 : ((t410.length : Int) == 1) = true := beq_iff_eq.mpr c11
        have c11b1 : ((t410.length : Int) != 1) = false := bne_eq_false_iff_eq.mpr c11
        clear c11
        by_cases c12 : 0 < (t410.length : Int)
        · rw [if_pos c12] at H
          have c12b0 : decide (0 < (t410.length : Int)) = true := decide_eq_true c12
          have c12b1 : decide (0 < t410.length) = true := decide_eq_true (by omega)
          clear c12
          obtain ⟨bq13, hbq13⟩ : ∃ b_ : Bool, b_ = ((rd_T45 t410 0).f1) := ⟨_, rfl⟩
          replace H : (if (bq13 = true) then (shardlaw1_TextBare.j0 k a0 t407 t409 false) else (shardlaw1_TextBare.j0 k a0 t407 t409 (((rd_T45 t410 0).f0).toList == a0.toList))) = some r := by rw [← hbq13] at H; exact H
          have Nbq13 := Aside0.mk hbq13
          clear hbq13
          by_cases c14 : (bq13 = true)
          · subst c14
            have H1 : (shardlaw1_TextBare.j0 k a0 t407 t409 false) = some r := by rw [if_pos rfl] at H; exact H
            clear H
            have H := H1
            clear H1
            have H' := Aside0.mk H
            clear H
            obtain ⟨Ao15, co15, eo15⟩ := Kd.R_slice HO414.out
            subst eo15
            have p415 : 0 ≤ (0 : Int) := (by omega)
            have q415 : 0 < (t410.length : Int) := of_decide_eq_true (by first | (with_reducible assumption) | assumption)
            obtain ⟨ad415, e415, hx415_0, hx415_1, hx415_2⟩ := at_T45 (Kd.R_reads' HO414.out).2.2 0 p415 q415
            (try rw [← Nbq13.out] at hx415_1)
            cases e415
            have qi415 : (0 < t410.length) = True := eq_true (by omega)
            (try rw [show ((0 : Int)).toNat = 0 from rfl] at hx415_0)
            (try rw [show 0 * 3 = 0 from rfl] at hx415_0)
            (try rw [Addr.add_zero'] at hx415_0)
            (try rw [show ((0 : Int)).toNat = 0 from rfl] at hx415_1)
            (try rw [show 0 * 3 = 0 from rfl] at hx415_1)
            (try rw [Addr.add_zero'] at hx415_1)
            (try rw [show ((0 : Int)).toNat = 0 from rfl] at hx415_2)
            (try rw [show 0 * 3 = 0 from rfl] at hx415_2)
            (try rw [Addr.add_zero'] at hx415_2)
            replace p415 := eq_true p415
            replace q415 := eq_true q415
            go_wp2
            go_meet
            case rel => exact ⟨_, (false), (by first | rfl | (simp; done) | (simp [*]; done)), H', ⟨by first | omega | exact Nat.le_refl _⟩, ⟨by repeat (first | (with_reducible first | exact HB.out | apply below_alloc | apply pw_below_drewN | apply below_drew1) | exact HB.out)⟩⟩
          · replace c14 := Bool.eq_false_iff.mpr c14
            subst c14
            have H1 : (shardlaw1_TextBare.j0 k a0 t407 t409 (((rd_T45 t410 0).f0).toList == a0.toList)) = some r := by rw [if_neg (show ¬ (false = true) by decide)] at H; exact H
            clear H
            have H := H1
            clear H1
            have H' := Aside0.mk H
            clear H
            obtain ⟨Ao16, co16, eo16⟩ := Kd.R_slice HO414.out
            subst eo16
            have p415 : 0 ≤ (0 : Int) := (by omega)
            have q415 : 0 < (t410.length : Int) := of_decide_eq_true (by first | (with_reducible assumption) | assumption)
            obtain ⟨ad415, e415, hx415_0, hx415_1, hx415_2⟩ := at_T45 (Kd.R_reads' HO414.out).2.2 0 p415 q415
            (try rw [← Nbq13.out] at hx415_1)
            cases e415
            have qi415 : (0 < t410.length) = True := eq_true (by omega)
            (try rw [show ((0 : Int)).toNat = 0 from rfl] at hx415_0)
            (try rw [show 0 * 3 = 0 from rfl] at hx415_0)
            (try rw [Addr.add_zero'] at hx415_0)
            (try rw [show ((0 : Int)).toNat = 0 from rfl] at hx415_1)
            (try rw [show 0 * 3 = 0 from rfl] at hx415_1)
            (try rw [Addr.add_zero'] at hx415_1)
            (try rw [show ((0 : Int)).toNat = 0 from rfl] at hx415_2)
            (try rw [show 0 * 3 = 0 from rfl] at hx415_2)
            (try rw [Addr.add_zero'] at hx415_2)
            replace p415 := eq_true p415
            replace q415 := eq_true q415
            have p416 : 0 ≤ (0 : Int) := (by omega)
            have q416 : 0 < (t410.length : Int) := of_decide_eq_true (by first | (with_reducible assumption) | assumption)
            obtain ⟨ad416, e416, hx416_0, hx416_1, hx416_2⟩ := at_T45 (Kd.R_reads' HO414.out).2.2 0 p416 q416
            (try rw [← Nbq13.out] at hx416_1)
            obtain rfl : ad415 = ad416 := (by injection e416)
            have qi416 : (0 < t410.length) = True := eq_true (by omega)
            (try rw [show ((0 : Int)).toNat = 0 from rfl] at hx416_0)
            (try rw [show 0 * 3 = 0 from rfl] at hx416_0)
            (try rw [Addr.add_zero'] at hx416_0)
            (try rw [show ((0 : Int)).toNat = 0 from rfl] at hx416_1)
            (try rw [show 0 * 3 = 0 from rfl] at hx416_1)
            (try rw [Addr.add_zero'] at hx416_1)
            (try rw [show ((0 : Int)).toNat = 0 from rfl] at hx416_2)
            (try rw [show 0 * 3 = 0 from rfl] at hx416_2)
            (try rw [Addr.add_zero'] at hx416_2)
            replace p416 := eq_true p416
            replace q416 := eq_true q416
            go_wp2
            go_meet
            case rel => exact ⟨_, ((((rd_T45 t410 0).f0).toList == a0.toList)), (by first | rfl | (simp; done) | (simp [*]; done)), H', ⟨by first | omega | exact Nat.le_refl _⟩, ⟨by repeat (first | (with_reducible first | exact HB.out | apply below_alloc | apply pw_below_drewN | apply below_drew1) | exact HB.out)⟩⟩
        · rw [if_neg c12] at H
          exact absurd H (by simp)
      · rw [if_neg c11] at H
        have c11b0 : ((t410.length : Int) == 1) = false := beq_eq_false_iff_ne.mpr c11
        have c11b1 : ((t410.length : Int) != 1) = true := bne_iff_ne.mpr c11
        have H' := Aside0.mk H
        clear H
        obtain ⟨Ao17, co17, eo17⟩ := Kd.R_slice HO414.out
        subst eo17
        go_wp2
        go_meet
        case rel => exact ⟨_, (false), (by first | rfl | (simp; done) | (simp [*]; done)), H', ⟨by first | omega | exact Nat.le_refl _⟩, ⟨by repeat (first | (with_reducible first | exact HB.out | apply below_alloc | apply pw_below_drewN | apply below_drew1) | exact HB.out)⟩⟩
    · rw [if_neg c10] at H
      have c10b0 : (t412 == 0) = false := beq_eq_false_iff_ne.mpr c10
      have c10b1 : (t412 != 0) = true := bne_iff_ne.mpr c10
      (first | rw [c10b0] | (simp only [i64_w, i32_w]; rw [c10b0]) | skip)
      have H' := Aside0.mk H
      clear H
      go_wp2
      go_meet
      case rel => exact ⟨_, (false), (by first | rfl | (simp; done) | (simp [*]; done)), H', ⟨by first | omega | exact Nat.le_refl _⟩, ⟨by repeat (first | (with_reducible first | exact HB.out | apply below_alloc | apply pw_below_drewN | apply below_drew1) | exact HB.out)⟩⟩
  case rest =>
    clear HC4
    try clear c1
    try clear q1
    try clear c2
    try clear p2
    try clear c3
    try clear p4
    try clear q4
    try clear hx4
    try clear qi4
    try clear c10
    try clear c10b0
    try clear c10b1
    try clear c11
    try clear c11b0
    try clear c11b1
    try clear c12
    try clear c12b0
    try clear c12b1
    try clear q13
    try clear c14
    try clear hx415_0
    try clear hx415_1
    try clear hx415_2
    try clear hx416_0
    try clear hx416_1
    try clear hx416_2
    try clear p415
    try clear p416
    try clear q415
    try clear q416
    obtain ⟨kq, x9_3, rfl, HA, HJ3, HB⟩ := hcut
    cases kq with
    | zero => exact absurd HA.out (by simp [shardlaw1_TextBare.j0])
    | succ kj3 =>
      have H := HA.out
      clear HA
      simp only [shardlaw1_TextBare.j0] at H
      obtain ⟨y417, hy417⟩ : ∃ y_ : List (S45), y_ = (([(⟨(⟨#[103, 101, 116]⟩ : ByteArray), false, 0⟩ : S45), (⟨a0, true, 0⟩ : S45)] : List (S45))) := ⟨_, rfl⟩
      replace H : ((text_Join.f kj3 y417).bind fun bt420 => (if bt420.2.2 = 0 then (if (bt420.1.size : Int) < 6 then (shardlaw1_TextBare.j1 kj3 a0 t407 t409 x9_3 bt420.2.2 true) else (if 0 ≤ 5 then (if 5 ≤ (bt420.1.size : Int) then (shardlaw1_TextBare.j1 kj3 a0 t407 t409 x9_3 bt420.2.2 ((bt420.1.extract 0 5).toList != ([103, 101, 116, 32, 34] : List UInt8))) else (none)) else (none))) else (shardlaw1_TextBare.j1 kj3 a0 t407 t409 x9_3 bt420.2.2 false))) = some r := by first | (rw [hy417]; with_reducible exact H) | (have H2_ := (Option.bind_some _ _).symm.trans H; rw [hy417]; with_reducible exact H2_) | (have H2_ := (Option.bind_some _ _).symm.trans H; with_reducible exact H2_) | with_reducible exact H | (rw [hy417]; exact H) | exact H
      have Ny417 := Aside0.mk hy417
      clear hy417
      replace H := Option.bind_eq_some_iff.mp H
      obtain ⟨⟨t420, t421, t422⟩, A180, H⟩ := H
      replace H : (if t422 = 0 then (if (t420.size : Int) < 6 then (shardlaw1_TextBare.j1 kj3 a0 t407 t409 x9_3 t422 true) else (if 0 ≤ 5 then (if 5 ≤ (t420.size : Int) then (shardlaw1_TextBare.j1 kj3 a0 t407 t409 x9_3 t422 ((t420.extract 0 5).toList != ([103, 101, 116, 32, 34] : List UInt8))) else (none)) else (none))) else (shardlaw1_TextBare.j1 kj3 a0 t407 t409 x9_3 t422 false)) = some r := H
      have A18 := Aside0.mk A180
      clear A180
      have HC19 := Aside0.mk H
      clear H
      go_upto_region 5 with (first | ((with_reducible refine gate_dst (N := 53) rfl ?_); (try (refine gate_guard (by rfl) ?_; dsimp only)); refine Kd.R_lit k45 _ 45 ?hg (N := 53) ?hd (xs := ([(⟨(⟨#[103, 101, 116]⟩ : ByteArray), false, 0⟩ : S45), (⟨a0, true, 0⟩ : S45)] : List (S45))) (inner := [.string (⟨#[103, 101, 116]⟩ : ByteArray), .bool false, .int .i64 0, .string a0, .bool true, .int .i64 0]) (ok := fun _ => True) (okp := fun _ => True) ?hr ?hp (fun _ hk => hk) trivial (Below.refl _ _) (Nat.le_refl _) (by simp) ?_; (case hd => rfl); (case hg => rfl); (case hr => first | (go_simp; done) | (go_simp; rfl)); (case hp => exact (Reps.c3 (show Kd.M k45 _ _ _ (⟨(⟨#[103, 101, 116]⟩ : ByteArray), false, 0⟩ : S45) [.string (⟨#[103, 101, 116]⟩ : ByteArray), .bool false, .int .i64 0] from (k45_mkM _ _ _ (⟨(⟨#[103, 101, 116]⟩ : ByteArray), false, 0⟩ : S45) )) (Reps.c3 (show Kd.M k45 _ _ _ (⟨a0, true, 0⟩ : S45) [.string a0, .bool true, .int .i64 0] from (k45_mkM _ _ _ (⟨a0, true, 0⟩ : S45) )) (Reps.none _ _)))); intro v418 w20 ho21 hb hg_ hnew_; clear hg_ hnew_; (first | rw [← Ny417.out] at ho21 | (simp only [Int.reduceToNat] at ho21; rw [← Ny417.out] at ho21)); have n0_ := Aside0.mk (Kd.R_lower ho21 (below_size (by repeat (first | (with_reducible first | exact HB.out | apply below_alloc | apply pw_below_drewN | apply below_drew1) | exact HB.out)))); have n1_ := Aside0.mk (below_step (by repeat (first | (with_reducible first | exact HB.out | apply below_alloc | apply pw_below_drewN | apply below_drew1) | exact HB.out)) hb); clear HB; have HO419 := n0_; have HB := n1_; clear n0_ n1_; clear hb ho21; obtain ⟨Ao22, co22, eo22⟩ := Kd.R_slice HO419.out; subst eo22) | ((with_reducible refine gate_callee (f := 27) rfl ?_); refine goesL_ (some 54) rfl rfl Tryd.func27 (by kernel_rfl) rfl #[.slice Ao22 y417.length co22] rfl (by (try simp only [List.map_toArray, List.map_cons, List.map_nil]); first | done | rfl | (simp only [List.length_drop, List.length_take]; rfl)) ?_; (with_reducible refine (text_Join.calls kj3 _ _ y417 t420 t421 t422 _ ?side1 ?side2 A18.out).mono ?_); (case side1 => repeat (first | exact (Kd.R_reads' HO419.out).2.2 | (with_reducible refine Kd.C_alloc ?_ _) | (with_reducible refine Kd.C_drewN ?_ _) | (with_reducible refine Kd.C_drew ?_))); (case side2 => exact (Kd.R_reads' HO419.out).2.1); rintro e w23 ⟨rfl, hb⟩; refine ⟨_, rfl, ?_⟩; have n0_ := Aside0.mk (Kd.R_below (by (with_reducible repeat (first | apply Kd.R_alloc | apply Kd.R_drewN | apply Kd.R_drew)); exact HO419.out) hb); have n1_ := Aside0.mk (below_step (by repeat (first | (with_reducible first | exact HB.out | apply below_alloc | apply pw_below_drewN | apply below_drew1) | exact HB.out)) hb); clear HO419; clear HB; have HO419 := n0_; have HB := n1_; clear n0_ n1_; (try clear hb); (try clear hb2); (try clear hk); (try clear hi)))
      (try simp only [Act.put, List.setIfInBounds_toArray, List.set_cons_zero, List.set_cons_succ])
      go_cut [69] (fun v69 wc => ∃ (kq : Nat) (x69_18 : Bool), v69 = .bool x69_18 ∧ Aside0 (shardlaw1_TextBare.j1 kq a0 t407 t409 x9_3 t422 x69_18 = some r) ∧ Aside0 (kq ≤ kj3) ∧ Aside0 (Below w.heap.size w wc))
      case first =>
        have H := HC19.out
        clear HC19
        by_cases c24 : t422 = 0
        · rw [if_pos c24] at H
          have c24b0 : (t422 == 0) = true := beq_iff_eq.mpr c24
          have c24b1 : (t422 != 0) = false := bne_eq_false_iff_eq.mpr c24
          clear c24
          (first | rw [c24b0] | (simp only [i64_w, i32_w]; rw [c24b0]) | skip)
          by_cases c25 : (t420.size : Int) < 6
          · rw [if_pos c25] at H
            have c25b0 : decide ((t420.size : Int) < 6) = true := decide_eq_true c25
            have c25b1 : decide (t420.size < 6) = true := decide_eq_true (by omega)
            clear c25
            have H' := Aside0.mk H
            clear H
            go_wp2
            go_meet
            case rel => exact ⟨_, (true), (by first | rfl | (simp; done) | (simp [*]; done)), H', ⟨by have := HJ3.out; first | omega | exact Nat.le_refl _⟩, ⟨by repeat (first | (with_reducible first | exact HB.out | apply below_alloc | apply pw_below_drewN | apply below_drew1) | exact HB.out)⟩⟩
          · rw [if_neg c25] at H
            have c25b0 : decide ((t420.size : Int) < 6) = false := decide_eq_false c25
            have c25b1 : decide (t420.size < 6) = false := decide_eq_false (by omega)
            clear c25
            by_cases c26 : 0 ≤ 5
            · rw [if_pos c26] at H
              have c26b0 := eq_true c26
              have c26b1 : decide (0 ≤ 5) = true := decide_eq_true c26
              clear c26
              by_cases c27 : 5 ≤ (t420.size : Int)
              · rw [if_pos c27] at H
                have c27b0 := eq_true c27
                have c27b1 : decide (5 ≤ (t420.size : Int)) = true := decide_eq_true c27
                clear c27
                have H' := Aside0.mk H
                clear H
                go_wp2
                go_meet
                case rel => exact ⟨_, (((t420.extract 0 5).toList != ([103, 101, 116, 32, 34] : List UInt8))), (by first | rfl | (simp; done) | (simp [*]; done)), H', ⟨by have := HJ3.out; first | omega | exact Nat.le_refl _⟩, ⟨by repeat (first | (with_reducible first | exact HB.out | apply below_alloc | apply pw_below_drewN | apply below_drew1) | exact HB.out)⟩⟩
              · rw [if_neg c27] at H
                exact absurd H (by simp)
            · rw [if_neg c26] at H
              exact absurd H (by simp)
        · rw [if_neg c24] at H
          have c24b0 : (t422 == 0) = false := beq_eq_false_iff_ne.mpr c24
          have c24b1 : (t422 != 0) = true := bne_iff_ne.mpr c24
          (first | rw [c24b0] | (simp only [i64_w, i32_w]; rw [c24b0]) | skip)
          have H' := Aside0.mk H
          clear H
          go_wp2
          go_meet
          case rel => exact ⟨_, (false), (by first | rfl | (simp; done) | (simp [*]; done)), H', ⟨by have := HJ3.out; first | omega | exact Nat.le_refl _⟩, ⟨by repeat (first | (with_reducible first | exact HB.out | apply below_alloc | apply pw_below_drewN | apply below_drew1) | exact HB.out)⟩⟩
      case rest =>
        clear HC19
        try clear c1
        try clear q1
        try clear c2
        try clear p2
        try clear c3
        try clear p4
        try clear q4
        try clear hx4
        try clear qi4
        try clear c10
        try clear c10b0
        try clear c10b1
        try clear c11
        try clear c11b0
        try clear c11b1
        try clear c12
        try clear c12b0
        try clear c12b1
        try clear q13
        try clear c14
        try clear c21
        try clear c24
        try clear c24b0
        try clear c24b1
        try clear c25
        try clear c25b0
        try clear c25b1
        try clear c26
        try clear c26b0
        try clear c26b1
        try clear c27
        try clear c27b0
        try clear c27b1
        try clear hx415_0
        try clear hx415_1
        try clear hx415_2
        try clear hx416_0
        try clear hx416_1
        try clear hx416_2
        try clear p2
        try clear p4
        try clear p415
        try clear p416
        try clear q1
        try clear q13
        try clear q4
        try clear q415
        try clear q416
        obtain ⟨kq, x69_18, rfl, HA, HJ18, HB⟩ := hcut
        cases kq with
        | zero => exact absurd HA.out (by simp [shardlaw1_TextBare.j1])
        | succ kj18 =>
          have H := HA.out
          clear HA
          simp only [shardlaw1_TextBare.j1] at H
          by_cases c28 : x69_18 = true
          · subst c28
            have H1 : (some false) = some r := by rw [if_pos rfl] at H; exact H
            clear H
            have H := H1
            clear H1
            obtain rfl := Option.some.inj H
            go_wp2
            go_ret
            exact ⟨by first | rfl | (simp [errW_none, errW_some] <;> rfl) | (simp [*, errW_none, errW_some] <;> rfl), by repeat (first | (with_reducible first | exact HB.out | apply below_alloc | apply pw_below_drewN | apply below_drew1) | exact HB.out)⟩
          · replace c28 := Bool.eq_false_iff.mpr c28
            subst c28
            have H1 : (if t422 = 0 then (shardlaw1_TextBare.j2 kj18 a0 t407 t409 x9_3 false) else (if (a0.size : Int) < 500 then (shardlaw1_TextBare.j2 kj18 a0 t407 t409 x9_3 true) else (shardlaw1_TextBare.j2 kj18 a0 t407 t409 x9_3 (t422 != 10)))) = some r := by rw [if_neg (show ¬ (false = true) by decide)] at H; exact H
            clear H
            have H := H1
            clear H1
            have HC29 := Aside0.mk H
            clear H
            go_upto_region 7 with (fail)
            go_cut [80] (fun v80 wc => ∃ (kq : Nat) (x80_28 : Bool), v80 = .bool x80_28 ∧ Aside0 (shardlaw1_TextBare.j2 kq a0 t407 t409 x9_3 x80_28 = some r) ∧ Aside0 (kq ≤ kj18) ∧ Aside0 (Below w.heap.size w wc))
            case first =>
              have H := HC29.out
              clear HC29
              by_cases c30 : t422 = 0
              · rw [if_pos c30] at H
                have c30b0 : (t422 == 0) = true := beq_iff_eq.mpr c30
                have c30b1 : (t422 != 0) = false := bne_eq_false_iff_eq.mpr c30
                clear c30
                (first | rw [c30b0] | (simp only [i64_w, i32_w]; rw [c30b0]) | skip)
                have H' := Aside0.mk H
                clear H
                go_wp2
                go_meet
                case rel => exact ⟨_, (false), (by first | rfl | (simp; done) | (simp [*]; done)), H', ⟨by have := HJ3.out; have := HJ18.out; first | omega | exact Nat.le_refl _⟩, ⟨by repeat (first | (with_reducible first | exact HB.out | apply below_alloc | apply pw_below_drewN | apply below_drew1) | exact HB.out)⟩⟩
              · rw [if_neg c30] at H
                have c30b0 : (t422 == 0) = false := beq_eq_false_iff_ne.mpr c30
                have c30b1 : (t422 != 0) = true := bne_iff_ne.mpr c30
                (first | rw [c30b0] | (simp only [i64_w, i32_w]; rw [c30b0]) | skip)
                by_cases c31 : (a0.size : Int) < 500
                · rw [if_pos c31] at H
                  have c31b0 : decide ((a0.size : Int) < 500) = true := decide_eq_true c31
                  have c31b1 : decide (a0.size < 500) = true := decide_eq_true (by omega)
                  clear c31
                  have H' := Aside0.mk H
                  clear H
                  go_wp2
                  go_meet
                  case rel => exact ⟨_, (true), (by first | rfl | (simp; done) | (simp [*]; done)), H', ⟨by have := HJ3.out; have := HJ18.out; first | omega | exact Nat.le_refl _⟩, ⟨by repeat (first | (with_reducible first | exact HB.out | apply below_alloc | apply pw_below_drewN | apply below_drew1) | exact HB.out)⟩⟩
                · rw [if_neg c31] at H
                  have c31b0 : decide ((a0.size : Int) < 500) = false := decide_eq_false c31
                  have c31b1 : decide (a0.size < 500) = false := decide_eq_false (by omega)
                  clear c31
                  have H' := Aside0.mk H
                  clear H
                  go_wp2
                  go_meet
                  case rel => exact ⟨_, ((t422 != 10)), (by first | rfl | (simp; done) | (simp [*]; done)), H', ⟨by have := HJ3.out; have := HJ18.out; first | omega | exact Nat.le_refl _⟩, ⟨by repeat (first | (with_reducible first | exact HB.out | apply below_alloc | apply pw_below_drewN | apply below_drew1) | exact HB.out)⟩⟩
            case rest =>
              clear HC29
              try clear c1
              try clear q1
              try clear c2
              try clear p2
              try clear c3
              try clear p4
              try clear q4
              try clear hx4
              try clear qi4
              try clear c10
              try clear c10b0
              try clear c10b1
              try clear c11
              try clear c11b0
              try clear c11b1
              try clear c12
              try clear c12b0
              try clear c12b1
              try clear q13
              try clear c14
              try clear c21
              try clear c24
              try clear c24b0
              try clear c24b1
              try clear c25
              try clear c25b0
              try clear c25b1
              try clear c26
              try clear c26b0
              try clear c26b1
              try clear c27
              try clear c27b0
              try clear c27b1
              try clear c28
              try clear c30
              try clear c30b0
              try clear c30b1
              try clear c31
              try clear c31b0
              try clear c31b1
              try clear hx415_0
              try clear hx415_1
              try clear hx415_2
              try clear hx416_0
              try clear hx416_1
              try clear hx416_2
              try clear p2
              try clear p4
              try clear p415
              try clear p416
              try clear q1
              try clear q13
              try clear q4
              try clear q415
              try clear q416
              obtain ⟨kq, x80_28, rfl, HA, HJ28, HB⟩ := hcut
              cases kq with
              | zero => exact absurd HA.out (by simp [shardlaw1_TextBare.j2])
              | succ kj28 =>
                have H := HA.out
                clear HA
                simp only [shardlaw1_TextBare.j2] at H
                by_cases c32 : x80_28 = true
                · subst c32
                  have H1 : (some false) = some r := by rw [if_pos rfl] at H; exact H
                  clear H
                  have H := H1
                  clear H1
                  obtain rfl := Option.some.inj H
                  go_wp2
                  go_ret
                  exact ⟨by first | rfl | (simp [errW_none, errW_some] <;> rfl) | (simp [*, errW_none, errW_some] <;> rfl), by repeat (first | (with_reducible first | exact HB.out | apply below_alloc | apply pw_below_drewN | apply below_drew1) | exact HB.out)⟩
                · replace c32 := Bool.eq_false_iff.mpr c32
                  subst c32
                  have H1 : (if t409 = 0 then (if x9_3 = true then (some (t407.toList == a0.toList)) else (some false)) else (if x9_3 = true then (some false) else (some (t407.toList == ([] : List UInt8))))) = some r := by rw [if_neg (show ¬ (false = true) by decide)] at H; exact H
                  clear H
                  have H := H1
                  clear H1
                  by_cases c33 : t409 = 0
                  · rw [if_pos c33] at H
                    have c33b0 : (t409 == 0) = true := beq_iff_eq.mpr c33
                    have c33b1 : (t409 != 0) = false := bne_eq_false_iff_eq.mpr c33
                    clear c33
                    by_cases c34 : x9_3 = true
                    · subst c34
                      have H1 : (some (t407.toList == a0.toList)) = some r := by rw [if_pos rfl] at H; exact H
                      clear H
                      have H := H1
                      clear H1
                      obtain rfl := Option.some.inj H
                      go_wp2
                      go_ret
                      exact ⟨by first | rfl | (simp [errW_none, errW_some] <;> rfl) | (simp [*, errW_none, errW_some] <;> rfl), by repeat (first | (with_reducible first | exact HB.out | apply below_alloc | apply pw_below_drewN | apply below_drew1) | exact HB.out)⟩
                    · replace c34 := Bool.eq_false_iff.mpr c34
                      subst c34
                      have H1 : (some false) = some r := by rw [if_neg (show ¬ (false = true) by decide)] at H; exact H
                      clear H
                      have H := H1
                      clear H1
                      obtain rfl := Option.some.inj H
                      go_wp2
                      go_ret
                      exact ⟨by first | rfl | (simp [errW_none, errW_some] <;> rfl) | (simp [*, errW_none, errW_some] <;> rfl), by repeat (first | (with_reducible first | exact HB.out | apply below_alloc | apply pw_below_drewN | apply below_drew1) | exact HB.out)⟩
                  · rw [if_neg c33] at H
                    have c33b0 : (t409 == 0) = false := beq_eq_false_iff_ne.mpr c33
                    have c33b1 : (t409 != 0) = true := bne_iff_ne.mpr c33
                    by_cases c35 : x9_3 = true
                    · subst c35
                      have H1 : (some false) = some r := by rw [if_pos rfl] at H; exact H
                      clear H
                      have H := H1
                      clear H1
                      obtain rfl := Option.some.inj H
                      go_wp2
                      go_ret
                      exact ⟨by first | rfl | (simp [errW_none, errW_some] <;> rfl) | (simp [*, errW_none, errW_some] <;> rfl), by repeat (first | (with_reducible first | exact HB.out | apply below_alloc | apply pw_below_drewN | apply below_drew1) | exact HB.out)⟩
                    · replace c35 := Bool.eq_false_iff.mpr c35
                      subst c35
                      have H1 : (some (t407.toList == ([] : List UInt8))) = some r := by rw [if_neg (show ¬ (false = true) by decide)] at H; exact H
                      clear H
                      have H := H1
                      clear H1
                      obtain rfl := Option.some.inj H
                      go_wp2
                      go_ret
                      exact ⟨by first | rfl | (simp [errW_none, errW_some] <;> rfl) | (simp [*, errW_none, errW_some] <;> rfl), by repeat (first | (with_reducible first | exact HB.out | apply below_alloc | apply pw_below_drewN | apply below_drew1) | exact HB.out)⟩

/-- THE ONE PURE STATEMENT of shardlaw1_TextBare: yours. -/
def shardlaw1_TextBare.Pure : Prop := ∀ (a0 : ByteArray), a0.size ≤ 140737488351232 → ∃ k, shardlaw1_TextBare.f k a0 = some true

end Go.Proofs.YtplhcnlpfoiieaaDoor.P
