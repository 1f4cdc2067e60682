-- Written by printx.py (this work's driver over the kit's print) out of the translation; Lean checks it.
import Derived.Test.YtplhcnlpfoiieaaPx0
import Derived.Test.YtplhcnlpfoiieaaPx1
import Derived.Test.YtplhcnlpfoiieaaPx5
import Derived.Test.YtplhcnlpfoiieaaPx63
namespace Go.Proofs.Ytplhcnlpfoiieaa.P
open Go.RowKit Go.Proofs.YtplhcnlpfoiieaaW.PrintWords Go.Proofs.YtplhcnlpfoiieaaW.PrintLast Go.Proofs.YtplhcnlpfoiieaaW.PrintMore
attribute [local go_sem] max2_int min2_int max_two min_two max_three min_three max_four min_four   -- for this text's walks alone
set_option linter.unusedVariables false
set_option linter.unusedSimpArgs false

attribute [local go_sem high] eqA28
/-! ### shardlaw1_TextApart: function 7 -/
mutual
def shardlaw1_TextApart.l0 : Nat → List Int → ByteArray → ByteArray → Int → Int → Option (Bool)
  | 0, _, _, _, _, _ => none
  | k + 1, x0, x1, x5, x6, x7 => if x7 < (x0.length : Int) then (if 0 ≤ x7 then ((text_Encode.f k (rd x0 x7)).bind fun bt396 => (if bt396.2 = 0 then (if x5.size + bt396.1.size ≤ 9223372036854775807 then (shardlaw1_TextApart.l0 k x0 x1 (x5 ++ bt396.1) (wrap64 (x6 + 1)) (wrap64 (x7 + 1))) else (none)) else (if bt396.1.toList = ([] : List UInt8) then (if (rd x0 x7) ≥ 0 then (if (rd x0 x7) < 55296 then (some false) else (shardlaw1_TextApart.l0 k x0 x1 x5 x6 (wrap64 (x7 + 1)))) else (shardlaw1_TextApart.l0 k x0 x1 x5 x6 (wrap64 (x7 + 1)))) else (some false)))) else (none)) else ((text_Pieces.f x5).bind fun t400 => ((text_Pieces.f x1).bind fun t403 => (if x5.size + x1.size ≤ 9223372036854775807 then ((text_Pieces.f (x5 ++ x1)).bind fun t406 => (if (t400.length : Int) = x6 then (shardlaw1_TextApart.j1 k x5 x6 t400 t403 t406 ((t406.length : Int) != (wrap64 ((t400.length : Int) + (t403.length : Int))))) else (shardlaw1_TextApart.j1 k x5 x6 t400 t403 t406 true))) else (none))))
def shardlaw1_TextApart.j1 : Nat → ByteArray → Int → List (S28) → List (S28) → List (S28) → Bool → Option (Bool)
  | 0, _, _, _, _, _, _ => none
  | k + 1, x5, x6, x10, x11, x12, x73 => if x73 = true then (some false) else (shardlaw1_TextApart.l1 k x5 x6 x10 x11 x12 0)
def shardlaw1_TextApart.l1 : Nat → ByteArray → Int → List (S28) → List (S28) → List (S28) → Int → Option (Bool)
  | 0, _, _, _, _, _, _ => none
  | k + 1, x5, x6, x10, x11, x12, x13 => if x13 < (x10.length : Int) then (if 0 ≤ x13 then (if x13 < (x12.length : Int) then (if (!(((rd_T28 x12 x13).f0) == ((rd_T28 x10 x13).f0)) || (!(((rd_T28 x12 x13).f1) == ((rd_T28 x10 x13).f1)) || (!(((rd_T28 x12 x13).f2) == ((rd_T28 x10 x13).f2)) || (!(((rd_T28 x12 x13).f3) == ((rd_T28 x10 x13).f3)))))) = true then (some false) else (if (rd_T28 x10 x13).f3 = true then (some false) else (shardlaw1_TextApart.l1 k x5 x6 x10 x11 x12 (wrap64 (x13 + 1))))) else (none)) else (none)) else (shardlaw1_TextApart.l2 k x5 x6 x11 x12 0)
def shardlaw1_TextApart.l2 : Nat → ByteArray → Int → List (S28) → List (S28) → Int → Option (Bool)
  | 0, _, _, _, _, _ => none
  | k + 1, x5, x6, x11, x12, x14 => if x14 < (x11.length : Int) then (if 0 ≤ (wrap64 (x6 + x14)) then (if (wrap64 (x6 + x14)) < (x12.length : Int) then (if 0 ≤ x14 then (if ((rd_T28 x12 (wrap64 (x6 + x14))).f0) = ((rd_T28 x11 x14).f0) then (if ((rd_T28 x12 (wrap64 (x6 + x14))).f1) = (wrap64 (((rd_T28 x11 x14).f1) + (x5.size : Int))) then (if (((rd_T28 x12 (wrap64 (x6 + x14))).f3) != ((rd_T28 x11 x14).f3)) = true then (some false) else (shardlaw1_TextApart.l2 k x5 x6 x11 x12 (wrap64 (x14 + 1)))) else (some false)) else (some false)) else (none)) else (none)) else (none)) else (some true)
end
def shardlaw1_TextApart.f (k : Nat) (l0 : List Int) (a1 : ByteArray) : Option (Bool) := shardlaw1_TextApart.l0 k l0 a1 (⟨#[]⟩ : ByteArray) 0 0
theorem shardlaw1_TextApart.mono_l : ∀ k, (∀ y0 y1 y2 y3 y4, LeO (shardlaw1_TextApart.l0 k y0 y1 y2 y3 y4) (shardlaw1_TextApart.l0 (k + 1) y0 y1 y2 y3 y4)) ∧ (∀ y0 y1 y2 y3 y4 y5, LeO (shardlaw1_TextApart.j1 k y0 y1 y2 y3 y4 y5) (shardlaw1_TextApart.j1 (k + 1) y0 y1 y2 y3 y4 y5)) ∧ (∀ y0 y1 y2 y3 y4 y5, LeO (shardlaw1_TextApart.l1 k y0 y1 y2 y3 y4 y5) (shardlaw1_TextApart.l1 (k + 1) y0 y1 y2 y3 y4 y5)) ∧ (∀ y0 y1 y2 y3 y4, LeO (shardlaw1_TextApart.l2 k y0 y1 y2 y3 y4) (shardlaw1_TextApart.l2 (k + 1) y0 y1 y2 y3 y4))
  | 0 => ⟨fun _ _ _ _ _ r h => by simp [shardlaw1_TextApart.l0] at h, fun _ _ _ _ _ _ r h => by simp [shardlaw1_TextApart.j1] at h, fun _ _ _ _ _ _ r h => by simp [shardlaw1_TextApart.l1] at h, fun _ _ _ _ _ r h => by simp [shardlaw1_TextApart.l2] at h⟩
  | k + 1 => by
    obtain ⟨ih0, ih1, ih2, ih3⟩ := shardlaw1_TextApart.mono_l k
    refine ⟨?_, ?_, ?_, ?_⟩
    · intro y0 y1 y2 y3 y4
      unfold shardlaw1_TextApart.l0
      repeat' first
      | (with_reducible exact ih0 _ _ _ _ _)
      | (with_reducible exact ih1 _ _ _ _ _ _)
      | (with_reducible exact ih2 _ _ _ _ _ _)
      | (with_reducible exact ih3 _ _ _ _ _)
      | (with_reducible exact text_Encode.mono _ _)
      | (with_reducible exact LeO.refl _)
      | (with_reducible exact LeO.none _)
      | (with_reducible refine LeO.ite ?_ ?_)
      | (with_reducible refine LeO.bind ?_ (fun _ => ?_))
      | exact ih0 _ _ _ _ _
      | exact ih1 _ _ _ _ _ _
      | exact ih2 _ _ _ _ _ _
      | exact ih3 _ _ _ _ _
      | exact text_Encode.mono _ _
      | exact LeO.none _
      | refine LeO.ite ?_ ?_
      | refine LeO.bind ?_ (fun _ => ?_)
    · intro y0 y1 y2 y3 y4 y5
      unfold shardlaw1_TextApart.j1
      repeat' first
      | (with_reducible exact ih0 _ _ _ _ _)
      | (with_reducible exact ih1 _ _ _ _ _ _)
      | (with_reducible exact ih2 _ _ _ _ _ _)
      | (with_reducible exact ih3 _ _ _ _ _)
      | (with_reducible exact text_Encode.mono _ _)
      | (with_reducible exact LeO.refl _)
      | (with_reducible exact LeO.none _)
      | (with_reducible refine LeO.ite ?_ ?_)
      | (with_reducible refine LeO.bind ?_ (fun _ => ?_))
      | exact ih0 _ _ _ _ _
      | exact ih1 _ _ _ _ _ _
      | exact ih2 _ _ _ _ _ _
      | exact ih3 _ _ _ _ _
      | exact text_Encode.mono _ _
      | exact LeO.none _
      | refine LeO.ite ?_ ?_
      | refine LeO.bind ?_ (fun _ => ?_)
    · intro y0 y1 y2 y3 y4 y5
      unfold shardlaw1_TextApart.l1
      repeat' first
      | (with_reducible exact ih0 _ _ _ _ _)
      | (with_reducible exact ih1 _ _ _ _ _ _)
      | (with_reducible exact ih2 _ _ _ _ _ _)
      | (with_reducible exact ih3 _ _ _ _ _)
      | (with_reducible exact text_Encode.mono _ _)
      | (with_reducible exact LeO.refl _)
      | (with_reducible exact LeO.none _)
      | (with_reducible refine LeO.ite ?_ ?_)
      | (with_reducible refine LeO.bind ?_ (fun _ => ?_))
      | exact ih0 _ _ _ _ _
      | exact ih1 _ _ _ _ _ _
      | exact ih2 _ _ _ _ _ _
      | exact ih3 _ _ _ _ _
      | exact text_Encode.mono _ _
      | exact LeO.none _
      | refine LeO.ite ?_ ?_
      | refine LeO.bind ?_ (fun _ => ?_)
    · intro y0 y1 y2 y3 y4
      unfold shardlaw1_TextApart.l2
      repeat' first
      | (with_reducible exact ih0 _ _ _ _ _)
      | (with_reducible exact ih1 _ _ _ _ _ _)
      | (with_reducible exact ih2 _ _ _ _ _ _)
      | (with_reducible exact ih3 _ _ _ _ _)
      | (with_reducible exact text_Encode.mono _ _)
      | (with_reducible exact LeO.refl _)
      | (with_reducible exact LeO.none _)
      | (with_reducible refine LeO.ite ?_ ?_)
      | (with_reducible refine LeO.bind ?_ (fun _ => ?_))
      | exact ih0 _ _ _ _ _
      | exact ih1 _ _ _ _ _ _
      | exact ih2 _ _ _ _ _ _
      | exact ih3 _ _ _ _ _
      | exact text_Encode.mono _ _
      | exact LeO.none _
      | refine LeO.ite ?_ ?_
      | refine LeO.bind ?_ (fun _ => ?_)
theorem shardlaw1_TextApart.mono : ∀ a0 a1 k, LeO (shardlaw1_TextApart.f k a0 a1) (shardlaw1_TextApart.f (k + 1) a0 a1) := by
  intro a0 a1 k
  obtain ⟨ih0, ih1, ih2, ih3⟩ := shardlaw1_TextApart.mono_l k
  unfold shardlaw1_TextApart.f
  repeat' first
      | (with_reducible exact ih0 _ _ _ _ _)
      | (with_reducible exact ih1 _ _ _ _ _ _)
      | (with_reducible exact ih2 _ _ _ _ _ _)
      | (with_reducible exact ih3 _ _ _ _ _)
      | (with_reducible exact text_Encode.mono _ _)
      | (with_reducible exact LeO.refl _)
      | (with_reducible exact LeO.none _)
      | (with_reducible refine LeO.ite ?_ ?_)
      | (with_reducible refine LeO.bind ?_ (fun _ => ?_))
      | exact ih0 _ _ _ _ _
      | exact ih1 _ _ _ _ _ _
      | exact ih2 _ _ _ _ _ _
      | exact ih3 _ _ _ _ _
      | exact text_Encode.mono _ _
      | exact LeO.none _
      | refine LeO.ite ?_ ?_
      | refine LeO.bind ?_ (fun _ => ?_)
set_option maxHeartbeats 8000000 in
set_option maxRecDepth 100000 in
theorem shardlaw1_TextApart.calls (k : Nat) (A0 : Option Addr) (c0 : Nat) (l0 : List Int) (a1 : ByteArray) (r : Bool) (w : World) (hr0 : Kd.C (Kd.int .i32) w A0 l0.length l0) (hc0 : l0.length ≤ c0) (h : shardlaw1_TextApart.f k l0 a1 = some r) :
    Calls Try.prog 7 #[.slice A0 l0.length c0, .string a1] w fun e w' => e = .returned (.bool r) ∧ Below w.heap.size w w' := by
  have hu28 := Try.underlying28
  have HR0 := Aside0.mk hr0
  have HC0 := Aside0.mk hc0
  clear hr0 hc0
  have HB := Aside0.mk (Below.refl w.heap.size w)
  have H : (shardlaw1_TextApart.l0 k l0 a1 (⟨#[]⟩ : ByteArray) 0 0) = some r := h
  clear h
  have H' := Aside0.mk H
  clear H
  go_enter Try.func7, Try.ntmps7
  go_wp2
  repeat (go_quiet (fail); try go_wp2)
  go_loopg [5, 6, 7] k (fun kq v5 v6 v7 w' => ∃ (x5_1 : ByteArray) (x6_1 : Int) (x7_1 : Int), v5 = .string x5_1 ∧ v6 = .int .i64 x6_1 ∧ v7 = .int .i64 x7_1 ∧ Aside0 (shardlaw1_TextApart.l0 kq l0 a1 x5_1 x6_1 x7_1 = some r) ∧ Aside0 (kq ≤ k) ∧ Aside0 (Below w.heap.size w w'))
  case atStart => exact ⟨((⟨#[]⟩ : ByteArray)), (0), (0), (by first | rfl | (simp; done) | (simp [*]; done)), (by first | rfl | (simp; done) | (simp [*]; done)), (by first | rfl | (simp; done) | (simp [*]; done)), H', ⟨Nat.le_refl _⟩, ⟨by repeat (first | (with_reducible first | exact HB.out | apply below_alloc | apply pw_below_drewN | apply below_drew1) | exact HB.out)⟩⟩
  case round =>
    clear H'
    try clear p2
    obtain ⟨x5_1, x6_1, x7_1, rfl, rfl, rfl, HA, HK1, HB⟩ := hrel
    cases gk with
    | zero => exact absurd HA.out (by simp [shardlaw1_TextApart.l0])
    | succ k1 =>
      have H := HA.out
      clear HA
      simp only [shardlaw1_TextApart.l0] at H
      by_cases c3 : x7_1 < (l0.length : Int)
      · rw [if_pos c3] at H
        have c3b0 : decide (x7_1 < (l0.length : Int)) = true := decide_eq_true c3
        clear c3
        by_cases c4 : 0 ≤ x7_1
        · rw [if_pos c4] at H
          have c4b0 : decide (0 ≤ x7_1) = true := decide_eq_true c4
          clear c4
          replace H := Option.bind_eq_some_iff.mp H
          obtain ⟨⟨t396, t397⟩, A50, H⟩ := H
          replace H : (if t397 = 0 then (if x5_1.size + t396.size ≤ 9223372036854775807 then (shardlaw1_TextApart.l0 k1 l0 a1 (x5_1 ++ t396) (wrap64 (x6_1 + 1)) (wrap64 (x7_1 + 1))) else (none)) else (if t396.toList = ([] : List UInt8) then (if (rd l0 x7_1) ≥ 0 then (if (rd l0 x7_1) < 55296 then (some false) else (shardlaw1_TextApart.l0 k1 l0 a1 x5_1 x6_1 (wrap64 (x7_1 + 1)))) else (shardlaw1_TextApart.l0 k1 l0 a1 x5_1 x6_1 (wrap64 (x7_1 + 1)))) else (some false))) = some r := H
          have A5 := Aside0.mk A50
          clear A50
          by_cases c6 : t397 = 0
          · rw [if_pos c6] at H
            have c6b0 : (t397 == 0) = true := beq_iff_eq.mpr c6
            have c6b1 : (t397 != 0) = false := bne_eq_false_iff_eq.mpr c6
            clear c6
            by_cases c7 : x5_1.size + t396.size ≤ 9223372036854775807
            · rw [if_pos c7] at H
              have c7b0 := eq_true c7
              have c7b1 : decide (x5_1.size + t396.size ≤ 9223372036854775807) = true := decide_eq_true c7
              try have c7b2 : (9223372036854775807 < x5_1.size + t396.size) = False := eq_false (Nat.not_lt.2 c7)
              have H' := Aside0.mk H
              clear H
              have p395 : 0 ≤ (x7_1 : Int) := of_decide_eq_true (by first | (with_reducible assumption) | assumption)
              have q395 : x7_1 < (l0.length : Int) := of_decide_eq_true (by first | (with_reducible assumption) | assumption)
              obtain ⟨ad395, e395, hx395_0⟩ := Kd.at_int HR0.out x7_1 p395 q395
              cases e395
              replace hx395_0 := (HB.out.cell (World.block_lt_of_cell? w _ hx395_0)).trans hx395_0
              replace p395 := eq_true p395
              replace q395 := eq_true q395
              go_wp2_with (first | (go_at_call 17; (with_reducible refine (text_Encode.calls k1 (rd l0 x7_1) t396 t397 _ A5.out).mono ?_); rintro e w' ⟨rfl, ⟨nd, rfl⟩⟩; (try first | exact ⟨rfl, _, World.drewN_drewN _ _ _⟩ | exact ⟨rfl, _, Eq.trans (World.drewN_drewN _ _ _) (congrArg (World.drewN _) (Nat.add_assoc _ _ _))⟩)))
              repeat (go_quiet (first | (go_at_call 17; (with_reducible refine (text_Encode.calls k1 (rd l0 x7_1) t396 t397 _ A5.out).mono ?_); rintro e w' ⟨rfl, ⟨nd, rfl⟩⟩; (try first | exact ⟨rfl, _, World.drewN_drewN _ _ _⟩ | exact ⟨rfl, _, Eq.trans (World.drewN_drewN _ _ _) (congrArg (World.drewN _) (Nat.add_assoc _ _ _))⟩))); try go_wp2_with (first | (go_at_call 17; (with_reducible refine (text_Encode.calls k1 (rd l0 x7_1) t396 t397 _ A5.out).mono ?_); rintro e w' ⟨rfl, ⟨nd, rfl⟩⟩; (try first | exact ⟨rfl, _, World.drewN_drewN _ _ _⟩ | exact ⟨rfl, _, Eq.trans (World.drewN_drewN _ _ _) (congrArg (World.drewN _) (Nat.add_assoc _ _ _))⟩))))
              go_roundg k1
              case measure => have := HK1.out; omega
              case rel => exact ⟨(x5_1 ++ t396), (wrap64 (x6_1 + 1)), (wrap64 (x7_1 + 1)), (by first | rfl | (simp; done) | (simp [*]; done)), (by first | rfl | (simp; done) | (simp [*]; done)), (by first | rfl | (simp; done) | (simp [*]; done)), H', ⟨by have := HK1.out; omega⟩, ⟨by repeat (first | (with_reducible first | exact HB.out | apply below_alloc | apply pw_below_drewN | apply below_drew1) | exact HB.out)⟩⟩
            · rw [if_neg c7] at H
              exact absurd H (by simp)
          · rw [if_neg c6] at H
            have c6b0 : (t397 == 0) = false := beq_eq_false_iff_ne.mpr c6
            have c6b1 : (t397 != 0) = true := bne_iff_ne.mpr c6
            by_cases c8 : t396.toList = ([] : List UInt8)
            · rw [if_pos c8] at H
              have c8b0 : (t396.toList == ([] : List UInt8)) = true := beq_iff_eq.mpr c8
              have c8b1 : (t396.toList != ([] : List UInt8)) = false := bne_eq_false_iff_eq.mpr c8
              clear c8
              by_cases c9 : (rd l0 x7_1) ≥ 0
              · rw [if_pos c9] at H
                have c9b0 : decide (0 ≤ (rd l0 x7_1)) = true := decide_eq_true c9
                clear c9
                by_cases c10 : (rd l0 x7_1) < 55296
                · rw [if_pos c10] at H
                  have c10b0 : decide ((rd l0 x7_1) < 55296) = true := decide_eq_true c10
                  clear c10
                  obtain rfl := Option.some.inj H
                  have p395 : 0 ≤ (x7_1 : Int) := of_decide_eq_true (by first | (with_reducible assumption) | assumption)
                  have q395 : x7_1 < (l0.length : Int) := of_decide_eq_true (by first | (with_reducible assumption) | assumption)
                  obtain ⟨ad395, e395, hx395_0⟩ := Kd.at_int HR0.out x7_1 p395 q395
                  cases e395
                  replace hx395_0 := (HB.out.cell (World.block_lt_of_cell? w _ hx395_0)).trans hx395_0
                  replace p395 := eq_true p395
                  replace q395 := eq_true q395
                  go_wp2_with (first | (go_at_call 17; (with_reducible refine (text_Encode.calls k1 (rd l0 x7_1) t396 t397 _ A5.out).mono ?_); rintro e w' ⟨rfl, ⟨nd, rfl⟩⟩; (try first | exact ⟨rfl, _, World.drewN_drewN _ _ _⟩ | exact ⟨rfl, _, Eq.trans (World.drewN_drewN _ _ _) (congrArg (World.drewN _) (Nat.add_assoc _ _ _))⟩); have p398 : 0 ≤ (x7_1 : Int) := of_decide_eq_true (by first | (with_reducible assumption) | assumption); have q398 : x7_1 < (l0.length : Int) := of_decide_eq_true (by first | (with_reducible assumption) | assumption); obtain ⟨ad398, e398, hx398_0⟩ := Kd.at_int HR0.out x7_1 p398 q398; obtain rfl : ad395 = ad398 := (by injection e398); replace hx398_0 := (HB.out.cell (World.block_lt_of_cell? w _ hx398_0)).trans hx398_0; replace p398 := eq_true p398; replace q398 := eq_true q398; have p399 : 0 ≤ (x7_1 : Int) := of_decide_eq_true (by first | (with_reducible assumption) | assumption); have q399 : x7_1 < (l0.length : Int) := of_decide_eq_true (by first | (with_reducible assumption) | assumption); obtain ⟨ad399, e399, hx399_0⟩ := Kd.at_int HR0.out x7_1 p399 q399; obtain rfl : ad395 = ad399 := (by injection e399); replace hx399_0 := (HB.out.cell (World.block_lt_of_cell? w _ hx399_0)).trans hx399_0; replace p399 := eq_true p399; replace q399 := eq_true q399))
                  repeat (go_quiet (first | (go_at_call 17; (with_reducible refine (text_Encode.calls k1 (rd l0 x7_1) t396 t397 _ A5.out).mono ?_); rintro e w' ⟨rfl, ⟨nd, rfl⟩⟩; (try first | exact ⟨rfl, _, World.drewN_drewN _ _ _⟩ | exact ⟨rfl, _, Eq.trans (World.drewN_drewN _ _ _) (congrArg (World.drewN _) (Nat.add_assoc _ _ _))⟩); have p398 : 0 ≤ (x7_1 : Int) := of_decide_eq_true (by first | (with_reducible assumption) | assumption); have q398 : x7_1 < (l0.length : Int) := of_decide_eq_true (by first | (with_reducible assumption) | assumption); obtain ⟨ad398, e398, hx398_0⟩ := Kd.at_int HR0.out x7_1 p398 q398; obtain rfl : ad395 = ad398 := (by injection e398); replace hx398_0 := (HB.out.cell (World.block_lt_of_cell? w _ hx398_0)).trans hx398_0; replace p398 := eq_true p398; replace q398 := eq_true q398; have p399 : 0 ≤ (x7_1 : Int) := of_decide_eq_true (by first | (with_reducible assumption) | assumption); have q399 : x7_1 < (l0.length : Int) := of_decide_eq_true (by first | (with_reducible assumption) | assumption); obtain ⟨ad399, e399, hx399_0⟩ := Kd.at_int HR0.out x7_1 p399 q399; obtain rfl : ad395 = ad399 := (by injection e399); replace hx399_0 := (HB.out.cell (World.block_lt_of_cell? w _ hx399_0)).trans hx399_0; replace p399 := eq_true p399; replace q399 := eq_true q399)); try go_wp2_with (first | (go_at_call 17; (with_reducible refine (text_Encode.calls k1 (rd l0 x7_1) t396 t397 _ A5.out).mono ?_); rintro e w' ⟨rfl, ⟨nd, rfl⟩⟩; (try first | exact ⟨rfl, _, World.drewN_drewN _ _ _⟩ | exact ⟨rfl, _, Eq.trans (World.drewN_drewN _ _ _) (congrArg (World.drewN _) (Nat.add_assoc _ _ _))⟩); have p398 : 0 ≤ (x7_1 : Int) := of_decide_eq_true (by first | (with_reducible assumption) | assumption); have q398 : x7_1 < (l0.length : Int) := of_decide_eq_true (by first | (with_reducible assumption) | assumption); obtain ⟨ad398, e398, hx398_0⟩ := Kd.at_int HR0.out x7_1 p398 q398; obtain rfl : ad395 = ad398 := (by injection e398); replace hx398_0 := (HB.out.cell (World.block_lt_of_cell? w _ hx398_0)).trans hx398_0; replace p398 := eq_true p398; replace q398 := eq_true q398; have p399 : 0 ≤ (x7_1 : Int) := of_decide_eq_true (by first | (with_reducible assumption) | assumption); have q399 : x7_1 < (l0.length : Int) := of_decide_eq_true (by first | (with_reducible assumption) | assumption); obtain ⟨ad399, e399, hx399_0⟩ := Kd.at_int HR0.out x7_1 p399 q399; obtain rfl : ad395 = ad399 := (by injection e399); replace hx399_0 := (HB.out.cell (World.block_lt_of_cell? w _ hx399_0)).trans hx399_0; replace p399 := eq_true p399; replace q399 := eq_true q399)))
                  go_ret
                  exact ⟨by first | rfl | (simp [errW_none, errW_some] <;> rfl) | (simp [*, errW_none, errW_some] <;> rfl), by repeat (first | (with_reducible first | exact HB.out | apply below_alloc | apply pw_below_drewN | apply below_drew1) | exact HB.out)⟩
                · rw [if_neg c10] at H
                  have c10b0 : decide ((rd l0 x7_1) < 55296) = false := decide_eq_false c10
                  clear c10
                  have H' := Aside0.mk H
                  clear H
                  have p395 : 0 ≤ (x7_1 : Int) := of_decide_eq_true (by first | (with_reducible assumption) | assumption)
                  have q395 : x7_1 < (l0.length : Int) := of_decide_eq_true (by first | (with_reducible assumption) | assumption)
                  obtain ⟨ad395, e395, hx395_0⟩ := Kd.at_int HR0.out x7_1 p395 q395
                  cases e395
                  replace hx395_0 := (HB.out.cell (World.block_lt_of_cell? w _ hx395_0)).trans hx395_0
                  replace p395 := eq_true p395
                  replace q395 := eq_true q395
                  go_wp2_with (first | (go_at_call 17; (with_reducible refine (text_Encode.calls k1 (rd l0 x7_1) t396 t397 _ A5.out).mono ?_); rintro e w' ⟨rfl, ⟨nd, rfl⟩⟩; (try first | exact ⟨rfl, _, World.drewN_drewN _ _ _⟩ | exact ⟨rfl, _, Eq.trans (World.drewN_drewN _ _ _) (congrArg (World.drewN _) (Nat.add_assoc _ _ _))⟩); have p398 : 0 ≤ (x7_1 : Int) := of_decide_eq_true (by first | (with_reducible assumption) | assumption); have q398 : x7_1 < (l0.length : Int) := of_decide_eq_true (by first | (with_reducible assumption) | assumption); obtain ⟨ad398, e398, hx398_0⟩ := Kd.at_int HR0.out x7_1 p398 q398; obtain rfl : ad395 = ad398 := (by injection e398); replace hx398_0 := (HB.out.cell (World.block_lt_of_cell? w _ hx398_0)).trans hx398_0; replace p398 := eq_true p398; replace q398 := eq_true q398; have p399 : 0 ≤ (x7_1 : Int) := of_decide_eq_true (by first | (with_reducible assumption) | assumption); have q399 : x7_1 < (l0.length : Int) := of_decide_eq_true (by first | (with_reducible assumption) | assumption); obtain ⟨ad399, e399, hx399_0⟩ := Kd.at_int HR0.out x7_1 p399 q399; obtain rfl : ad395 = ad399 := (by injection e399); replace hx399_0 := (HB.out.cell (World.block_lt_of_cell? w _ hx399_0)).trans hx399_0; replace p399 := eq_true p399; replace q399 := eq_true q399))
                  repeat (go_quiet (first | (go_at_call 17; (with_reducible refine (text_Encode.calls k1 (rd l0 x7_1) t396 t397 _ A5.out).mono ?_); rintro e w' ⟨rfl, ⟨nd, rfl⟩⟩; (try first | exact ⟨rfl, _, World.drewN_drewN _ _ _⟩ | exact ⟨rfl, _, Eq.trans (World.drewN_drewN _ _ _) (congrArg (World.drewN _) (Nat.add_assoc _ _ _))⟩); have p398 : 0 ≤ (x7_1 : Int) := of_decide_eq_true (by first | (with_reducible assumption) | assumption); have q398 : x7_1 < (l0.length : Int) := of_decide_eq_true (by first | (with_reducible assumption) | assumption); obtain ⟨ad398, e398, hx398_0⟩ := Kd.at_int HR0.out x7_1 p398 q398; obtain rfl : ad395 = ad398 := (by injection e398); replace hx398_0 := (HB.out.cell (World.block_lt_of_cell? w _ hx398_0)).trans hx398_0; replace p398 := eq_true p398; replace q398 := eq_true q398; have p399 : 0 ≤ (x7_1 : Int) := of_decide_eq_true (by first | (with_reducible assumption) | assumption); have q399 : x7_1 < (l0.length : Int) := of_decide_eq_true (by first | (with_reducible assumption) | assumption); obtain ⟨ad399, e399, hx399_0⟩ := Kd.at_int HR0.out x7_1 p399 q399; obtain rfl : ad395 = ad399 := (by injection e399); replace hx399_0 := (HB.out.cell (World.block_lt_of_cell? w _ hx399_0)).trans hx399_0; replace p399 := eq_true p399; replace q399 := eq_true q399)); try go_wp2_with (first | (go_at_call 17; (with_reducible refine (text_Encode.calls k1 (rd l0 x7_1) t396 t397 _ A5.out).mono ?_); rintro e w' ⟨rfl, ⟨nd, rfl⟩⟩; (try first | exact ⟨rfl, _, World.drewN_drewN _ _ _⟩ | exact ⟨rfl, _, Eq.trans (World.drewN_drewN _ _ _) (congrArg (World.drewN _) (Nat.add_assoc _ _ _))⟩); have p398 : 0 ≤ (x7_1 : Int) := of_decide_eq_true (by first | (with_reducible assumption) | assumption); have q398 : x7_1 < (l0.length : Int) := of_decide_eq_true (by first | (with_reducible assumption) | assumption); obtain ⟨ad398, e398, hx398_0⟩ := Kd.at_int HR0.out x7_1 p398 q398; obtain rfl : ad395 = ad398 := (by injection e398); replace hx398_0 := (HB.out.cell (World.block_lt_of_cell? w _ hx398_0)).trans hx398_0; replace p398 := eq_true p398; replace q398 := eq_true q398; have p399 : 0 ≤ (x7_1 : Int) := of_decide_eq_true (by first | (with_reducible assumption) | assumption); have q399 : x7_1 < (l0.length : Int) := of_decide_eq_true (by first | (with_reducible assumption) | assumption); obtain ⟨ad399, e399, hx399_0⟩ := Kd.at_int HR0.out x7_1 p399 q399; obtain rfl : ad395 = ad399 := (by injection e399); replace hx399_0 := (HB.out.cell (World.block_lt_of_cell? w _ hx399_0)).trans hx399_0; replace p399 := eq_true p399; replace q399 := eq_true q399)))
                  go_roundg k1
                  case measure => have := HK1.out; omega
                  case rel => exact ⟨(x5_1), (x6_1), (wrap64 (x7_1 + 1)), (by first | rfl | (simp; done) | (simp [*]; done)), (by first | rfl | (simp; done) | (simp [*]; done)), (by first | rfl | (simp; done) | (simp [*]; done)), H', ⟨by have := HK1.out; omega⟩, ⟨by repeat (first | (with_reducible first | exact HB.out | apply below_alloc | apply pw_below_drewN | apply below_drew1) | exact HB.out)⟩⟩
              · rw [if_neg c9] at H
                have c9b0 : decide (0 ≤ (rd l0 x7_1)) = false := decide_eq_false c9
                clear c9
                have H' := Aside0.mk H
                clear H
                have p395 : 0 ≤ (x7_1 : Int) := of_decide_eq_true (by first | (with_reducible assumption) | assumption)
                have q395 : x7_1 < (l0.length : Int) := of_decide_eq_true (by first | (with_reducible assumption) | assumption)
                obtain ⟨ad395, e395, hx395_0⟩ := Kd.at_int HR0.out x7_1 p395 q395
                cases e395
                replace hx395_0 := (HB.out.cell (World.block_lt_of_cell? w _ hx395_0)).trans hx395_0
                replace p395 := eq_true p395
                replace q395 := eq_true q395
                go_wp2_with (first | (go_at_call 17; (with_reducible refine (text_Encode.calls k1 (rd l0 x7_1) t396 t397 _ A5.out).mono ?_); rintro e w' ⟨rfl, ⟨nd, rfl⟩⟩; (try first | exact ⟨rfl, _, World.drewN_drewN _ _ _⟩ | exact ⟨rfl, _, Eq.trans (World.drewN_drewN _ _ _) (congrArg (World.drewN _) (Nat.add_assoc _ _ _))⟩); have p398 : 0 ≤ (x7_1 : Int) := of_decide_eq_true (by first | (with_reducible assumption) | assumption); have q398 : x7_1 < (l0.length : Int) := of_decide_eq_true (by first | (with_reducible assumption) | assumption); obtain ⟨ad398, e398, hx398_0⟩ := Kd.at_int HR0.out x7_1 p398 q398; obtain rfl : ad395 = ad398 := (by injection e398); replace hx398_0 := (HB.out.cell (World.block_lt_of_cell? w _ hx398_0)).trans hx398_0; replace p398 := eq_true p398; replace q398 := eq_true q398))
                repeat (go_quiet (first | (go_at_call 17; (with_reducible refine (text_Encode.calls k1 (rd l0 x7_1) t396 t397 _ A5.out).mono ?_); rintro e w' ⟨rfl, ⟨nd, rfl⟩⟩; (try first | exact ⟨rfl, _, World.drewN_drewN _ _ _⟩ | exact ⟨rfl, _, Eq.trans (World.drewN_drewN _ _ _) (congrArg (World.drewN _) (Nat.add_assoc _ _ _))⟩); have p398 : 0 ≤ (x7_1 : Int) := of_decide_eq_true (by first | (with_reducible assumption) | assumption); have q398 : x7_1 < (l0.length : Int) := of_decide_eq_true (by first | (with_reducible assumption) | assumption); obtain ⟨ad398, e398, hx398_0⟩ := Kd.at_int HR0.out x7_1 p398 q398; obtain rfl : ad395 = ad398 := (by injection e398); replace hx398_0 := (HB.out.cell (World.block_lt_of_cell? w _ hx398_0)).trans hx398_0; replace p398 := eq_true p398; replace q398 := eq_true q398)); try go_wp2_with (first | (go_at_call 17; (with_reducible refine (text_Encode.calls k1 (rd l0 x7_1) t396 t397 _ A5.out).mono ?_); rintro e w' ⟨rfl, ⟨nd, rfl⟩⟩; (try first | exact ⟨rfl, _, World.drewN_drewN _ _ _⟩ | exact ⟨rfl, _, Eq.trans (World.drewN_drewN _ _ _) (congrArg (World.drewN _) (Nat.add_assoc _ _ _))⟩); have p398 : 0 ≤ (x7_1 : Int) := of_decide_eq_true (by first | (with_reducible assumption) | assumption); have q398 : x7_1 < (l0.length : Int) := of_decide_eq_true (by first | (with_reducible assumption) | assumption); obtain ⟨ad398, e398, hx398_0⟩ := Kd.at_int HR0.out x7_1 p398 q398; obtain rfl : ad395 = ad398 := (by injection e398); replace hx398_0 := (HB.out.cell (World.block_lt_of_cell? w _ hx398_0)).trans hx398_0; replace p398 := eq_true p398; replace q398 := eq_true q398)))
                go_roundg k1
                case measure => have := HK1.out; omega
                case rel => exact ⟨(x5_1), (x6_1), (wrap64 (x7_1 + 1)), (by first | rfl | (simp; done) | (simp [*]; done)), (by first | rfl | (simp; done) | (simp [*]; done)), (by first | rfl | (simp; done) | (simp [*]; done)), H', ⟨by have := HK1.out; omega⟩, ⟨by repeat (first | (with_reducible first | exact HB.out | apply below_alloc | apply pw_below_drewN | apply below_drew1) | exact HB.out)⟩⟩
            · rw [if_neg c8] at H
              have c8b0 : (t396.toList == ([] : List UInt8)) = false := beq_eq_false_iff_ne.mpr c8
              have c8b1 : (t396.toList != ([] : List UInt8)) = true := bne_iff_ne.mpr c8
              obtain rfl := Option.some.inj H
              have p395 : 0 ≤ (x7_1 : Int) := of_decide_eq_true (by first | (with_reducible assumption) | assumption)
              have q395 : x7_1 < (l0.length : Int) := of_decide_eq_true (by first | (with_reducible assumption) | assumption)
              obtain ⟨ad395, e395, hx395_0⟩ := Kd.at_int HR0.out x7_1 p395 q395
              cases e395
              replace hx395_0 := (HB.out.cell (World.block_lt_of_cell? w _ hx395_0)).trans hx395_0
              replace p395 := eq_true p395
              replace q395 := eq_true q395
              go_wp2_with (first | (go_at_call 17; (with_reducible refine (text_Encode.calls k1 (rd l0 x7_1) t396 t397 _ A5.out).mono ?_); rintro e w' ⟨rfl, ⟨nd, rfl⟩⟩; (try first | exact ⟨rfl, _, World.drewN_drewN _ _ _⟩ | exact ⟨rfl, _, Eq.trans (World.drewN_drewN _ _ _) (congrArg (World.drewN _) (Nat.add_assoc _ _ _))⟩)))
              repeat (go_quiet (first | (go_at_call 17; (with_reducible refine (text_Encode.calls k1 (rd l0 x7_1) t396 t397 _ A5.out).mono ?_); rintro e w' ⟨rfl, ⟨nd, rfl⟩⟩; (try first | exact ⟨rfl, _, World.drewN_drewN _ _ _⟩ | exact ⟨rfl, _, Eq.trans (World.drewN_drewN _ _ _) (congrArg (World.drewN _) (Nat.add_assoc _ _ _))⟩))); try go_wp2_with (first | (go_at_call 17; (with_reducible refine (text_Encode.calls k1 (rd l0 x7_1) t396 t397 _ A5.out).mono ?_); rintro e w' ⟨rfl, ⟨nd, rfl⟩⟩; (try first | exact ⟨rfl, _, World.drewN_drewN _ _ _⟩ | exact ⟨rfl, _, Eq.trans (World.drewN_drewN _ _ _) (congrArg (World.drewN _) (Nat.add_assoc _ _ _))⟩))))
              go_ret
              exact ⟨by first | rfl | (simp [errW_none, errW_some] <;> rfl) | (simp [*, errW_none, errW_some] <;> rfl), by repeat (first | (with_reducible first | exact HB.out | apply below_alloc | apply pw_below_drewN | apply below_drew1) | exact HB.out)⟩
        · rw [if_neg c4] at H
          exact absurd H (by simp)
      · rw [if_neg c3] at H
        have c3b0 : decide (x7_1 < (l0.length : Int)) = false := decide_eq_false c3
        clear c3
        replace H := Option.bind_eq_some_iff.mp H
        obtain ⟨t400, A110, H⟩ := H
        replace H : ((text_Pieces.f a1).bind fun t403 => (if x5_1.size + a1.size ≤ 9223372036854775807 then ((text_Pieces.f (x5_1 ++ a1)).bind fun t406 => (if (t400.length : Int) = x6_1 then (shardlaw1_TextApart.j1 k1 x5_1 x6_1 t400 t403 t406 ((t406.length : Int) != (wrap64 ((t400.length : Int) + (t403.length : Int))))) else (shardlaw1_TextApart.j1 k1 x5_1 x6_1 t400 t403 t406 true))) else (none))) = some r := H
        have A11 := Aside0.mk A110
        clear A110
        replace H := Option.bind_eq_some_iff.mp H
        obtain ⟨t403, A120, H⟩ := H
        replace H : (if x5_1.size + a1.size ≤ 9223372036854775807 then ((text_Pieces.f (x5_1 ++ a1)).bind fun t406 => (if (t400.length : Int) = x6_1 then (shardlaw1_TextApart.j1 k1 x5_1 x6_1 t400 t403 t406 ((t406.length : Int) != (wrap64 ((t400.length : Int) + (t403.length : Int))))) else (shardlaw1_TextApart.j1 k1 x5_1 x6_1 t400 t403 t406 true))) else (none)) = some r := H
        have A12 := Aside0.mk A120
        clear A120
        by_cases c13 : x5_1.size + a1.size ≤ 9223372036854775807
        · rw [if_pos c13] at H
          have c13b0 := eq_true c13
          have c13b1 : decide (x5_1.size + a1.size ≤ 9223372036854775807) = true := decide_eq_true c13
          try have c13b2 : (9223372036854775807 < x5_1.size + a1.size) = False := eq_false (Nat.not_lt.2 c13)
          replace H := Option.bind_eq_some_iff.mp H
          obtain ⟨t406, A140, H⟩ := H
          replace H : (if (t400.length : Int) = x6_1 then (shardlaw1_TextApart.j1 k1 x5_1 x6_1 t400 t403 t406 ((t406.length : Int) != (wrap64 ((t400.length : Int) + (t403.length : Int))))) else (shardlaw1_TextApart.j1 k1 x5_1 x6_1 t400 t403 t406 true)) = some r := H
          have A14 := Aside0.mk A140
          clear A140
          have HC15 := Aside0.mk H
          clear H
          go_upto_region 15 with (first | (go_at_call 15; (with_reducible refine (text_Pieces.calls x5_1 t400 _ A11.out).mono ?_); rintro e w16 ⟨v401, rfl, ho0, hb⟩; have n0_ := Aside0.mk (Kd.R_lower ho0 (below_size (by repeat (first | (with_reducible first | exact HB.out | apply below_alloc | apply pw_below_drewN | apply below_drew1) | exact HB.out)))); have n1_ := Aside0.mk (below_step (by repeat (first | (with_reducible first | exact HB.out | apply below_alloc | apply pw_below_drewN | apply below_drew1) | exact HB.out)) hb); clear HB; have HO402 := n0_; have HB := n1_; clear n0_ n1_; (try clear hb); (try clear hb2); (try clear hk); (try clear hi); (try clear ho0)) | (go_at_call 15; (with_reducible refine (text_Pieces.calls a1 t403 _ A12.out).mono ?_); rintro e w17 ⟨v404, rfl, ho0, hb⟩; have n0_ := Aside0.mk (Kd.R_elder' (by (with_reducible repeat (first | apply Kd.R_alloc | apply Kd.R_drewN | apply Kd.R_drew)); exact HO402.out) (Kd.R_base ho0) hb); have n1_ := Aside0.mk (Kd.R_lower (Kd.R_new' ho0 (Kd.R_lt (by (with_reducible repeat (first | apply Kd.R_alloc | apply Kd.R_drewN | apply Kd.R_drew)); exact HO402.out))) (below_size (by repeat (first | (with_reducible first | exact HB.out | apply below_alloc | apply pw_below_drewN | apply below_drew1) | exact HB.out)))); have n2_ := Aside0.mk (below_step (by repeat (first | (with_reducible first | exact HB.out | apply below_alloc | apply pw_below_drewN | apply below_drew1) | exact HB.out)) hb); clear HO402; clear HB; have HO402 := n0_; have HO405 := n1_; have HB := n2_; clear n0_ n1_ n2_; (try clear hb); (try clear hb2); (try clear hk); (try clear hi); (try clear ho0)) | (go_at_call 15; (with_reducible refine (text_Pieces.calls (x5_1 ++ a1) t406 _ A14.out).mono ?_); rintro e w18 ⟨v407, rfl, ho0, hb⟩; have n0_ := Aside0.mk (Kd.R_elder' (by (with_reducible repeat (first | apply Kd.R_alloc | apply Kd.R_drewN | apply Kd.R_drew)); exact HO402.out) (Kd.R_base ho0) hb); have n1_ := Aside0.mk (Kd.R_elder' (by (with_reducible repeat (first | apply Kd.R_alloc | apply Kd.R_drewN | apply Kd.R_drew)); exact HO405.out) (Kd.R_base ho0) hb); have n2_ := Aside0.mk (Kd.R_lower (Kd.R_new' (Kd.R_new' ho0 (Kd.R_lt (by (with_reducible repeat (first | apply Kd.R_alloc | apply Kd.R_drewN | apply Kd.R_drew)); exact HO402.out))) (Kd.R_lt (by (with_reducible repeat (first | apply Kd.R_alloc | apply Kd.R_drewN | apply Kd.R_drew)); exact HO405.out))) (below_size (by repeat (first | (with_reducible first | exact HB.out | apply below_alloc | apply pw_below_drewN | apply below_drew1) | exact HB.out)))); have n3_ := Aside0.mk (below_step (by repeat (first | (with_reducible first | exact HB.out | apply below_alloc | apply pw_below_drewN | apply below_drew1) | exact HB.out)) hb); clear HO402; clear HO405; clear HB; have HO402 := n0_; have HO405 := n1_; have HO408 := n2_; have HB := n3_; clear n0_ n1_ n2_ n3_; (try clear hb); (try clear hb2); (try clear hk); (try clear hi); (try clear ho0)))
          repeat (go_quiet (first | (go_at_call 15; (with_reducible refine (text_Pieces.calls x5_1 t400 _ A11.out).mono ?_); rintro e w16 ⟨v401, rfl, ho0, hb⟩; have n0_ := Aside0.mk (Kd.R_lower ho0 (below_size (by repeat (first | (with_reducible first | exact HB.out | apply below_alloc | apply pw_below_drewN | apply below_drew1) | exact HB.out)))); have n1_ := Aside0.mk (below_step (by repeat (first | (with_reducible first | exact HB.out | apply below_alloc | apply pw_below_drewN | apply below_drew1) | exact HB.out)) hb); clear HB; have HO402 := n0_; have HB := n1_; clear n0_ n1_; (try clear hb); (try clear hb2); (try clear hk); (try clear hi); (try clear ho0)) | (go_at_call 15; (with_reducible refine (text_Pieces.calls a1 t403 _ A12.out).mono ?_); rintro e w17 ⟨v404, rfl, ho0, hb⟩; have n0_ := Aside0.mk (Kd.R_elder' (by (with_reducible repeat (first | apply Kd.R_alloc | apply Kd.R_drewN | apply Kd.R_drew)); exact HO402.out) (Kd.R_base ho0) hb); have n1_ := Aside0.mk (Kd.R_lower (Kd.R_new' ho0 (Kd.R_lt (by (with_reducible repeat (first | apply Kd.R_alloc | apply Kd.R_drewN | apply Kd.R_drew)); exact HO402.out))) (below_size (by repeat (first | (with_reducible first | exact HB.out | apply below_alloc | apply pw_below_drewN | apply below_drew1) | exact HB.out)))); have n2_ := Aside0.mk (below_step (by repeat (first | (with_reducible first | exact HB.out | apply below_alloc | apply pw_below_drewN | apply below_drew1) | exact HB.out)) hb); clear HO402; clear HB; have HO402 := n0_; have HO405 := n1_; have HB := n2_; clear n0_ n1_ n2_; (try clear hb); (try clear hb2); (try clear hk); (try clear hi); (try clear ho0)) | (go_at_call 15; (with_reducible refine (text_Pieces.calls (x5_1 ++ a1) t406 _ A14.out).mono ?_); rintro e w18 ⟨v407, rfl, ho0, hb⟩; have n0_ := Aside0.mk (Kd.R_elder' (by (with_reducible repeat (first | apply Kd.R_alloc | apply Kd.R_drewN | apply Kd.R_drew)); exact HO402.out) (Kd.R_base ho0) hb); have n1_ := Aside0.mk (Kd.R_elder' (by (with_reducible repeat (first | apply Kd.R_alloc | apply Kd.R_drewN | apply Kd.R_drew)); exact HO405.out) (Kd.R_base ho0) hb); have n2_ := Aside0.mk (Kd.R_lower (Kd.R_new' (Kd.R_new' ho0 (Kd.R_lt (by (with_reducible repeat (first | apply Kd.R_alloc | apply Kd.R_drewN | apply Kd.R_drew)); exact HO402.out))) (Kd.R_lt (by (with_reducible repeat (first | apply Kd.R_alloc | apply Kd.R_drewN | apply Kd.R_drew)); exact HO405.out))) (below_size (by repeat (first | (with_reducible first | exact HB.out | apply below_alloc | apply pw_below_drewN | apply below_drew1) | exact HB.out)))); have n3_ := Aside0.mk (below_step (by repeat (first | (with_reducible first | exact HB.out | apply below_alloc | apply pw_below_drewN | apply below_drew1) | exact HB.out)) hb); clear HO402; clear HO405; clear HB; have HO402 := n0_; have HO405 := n1_; have HO408 := n2_; have HB := n3_; clear n0_ n1_ n2_ n3_; (try clear hb); (try clear hb2); (try clear hk); (try clear hi); (try clear ho0))); go_upto_region 15 with (first | (go_at_call 15; (with_reducible refine (text_Pieces.calls x5_1 t400 _ A11.out).mono ?_); rintro e w16 ⟨v401, rfl, ho0, hb⟩; have n0_ := Aside0.mk (Kd.R_lower ho0 (below_size (by repeat (first | (with_reducible first | exact HB.out | apply below_alloc | apply pw_below_drewN | apply below_drew1) | exact HB.out)))); have n1_ := Aside0.mk (below_step (by repeat (first | (with_reducible first | exact HB.out | apply below_alloc | apply pw_below_drewN | apply below_drew1) | exact HB.out)) hb); clear HB; have HO402 := n0_; have HB := n1_; clear n0_ n1_; (try clear hb); (try clear hb2); (try clear hk); (try clear hi); (try clear ho0)) | (go_at_call 15; (with_reducible refine (text_Pieces.calls a1 t403 _ A12.out).mono ?_); rintro e w17 ⟨v404, rfl, ho0, hb⟩; have n0_ := Aside0.mk (Kd.R_elder' (by (with_reducible repeat (first | apply Kd.R_alloc | apply Kd.R_drewN | apply Kd.R_drew)); exact HO402.out) (Kd.R_base ho0) hb); have n1_ := Aside0.mk (Kd.R_lower (Kd.R_new' ho0 (Kd.R_lt (by (with_reducible repeat (first | apply Kd.R_alloc | apply Kd.R_drewN | apply Kd.R_drew)); exact HO402.out))) (below_size (by repeat (first | (with_reducible first | exact HB.out | apply below_alloc | apply pw_below_drewN | apply below_drew1) | exact HB.out)))); have n2_ := Aside0.mk (below_step (by repeat (first | (with_reducible first | exact HB.out | apply below_alloc | apply pw_below_drewN | apply below_drew1) | exact HB.out)) hb); clear HO402; clear HB; have HO402 := n0_; have HO405 := n1_; have HB := n2_; clear n0_ n1_ n2_; (try clear hb); (try clear hb2); (try clear hk); (try clear hi); (try clear ho0)) | (go_at_call 15; (with_reducible refine (text_Pieces.calls (x5_1 ++ a1) t406 _ A14.out).mono ?_); rintro e w18 ⟨v407, rfl, ho0, hb⟩; have n0_ := Aside0.mk (Kd.R_elder' (by (with_reducible repeat (first | apply Kd.R_alloc | apply Kd.R_drewN | apply Kd.R_drew)); exact HO402.out) (Kd.R_base ho0) hb); have n1_ := Aside0.mk (Kd.R_elder' (by (with_reducible repeat (first | apply Kd.R_alloc | apply Kd.R_drewN | apply Kd.R_drew)); exact HO405.out) (Kd.R_base ho0) hb); have n2_ := Aside0.mk (Kd.R_lower (Kd.R_new' (Kd.R_new' ho0 (Kd.R_lt (by (with_reducible repeat (first | apply Kd.R_alloc | apply Kd.R_drewN | apply Kd.R_drew)); exact HO402.out))) (Kd.R_lt (by (with_reducible repeat (first | apply Kd.R_alloc | apply Kd.R_drewN | apply Kd.R_drew)); exact HO405.out))) (below_size (by repeat (first | (with_reducible first | exact HB.out | apply below_alloc | apply pw_below_drewN | apply below_drew1) | exact HB.out)))); have n3_ := Aside0.mk (below_step (by repeat (first | (with_reducible first | exact HB.out | apply below_alloc | apply pw_below_drewN | apply below_drew1) | exact HB.out)) hb); clear HO402; clear HO405; clear HB; have HO402 := n0_; have HO405 := n1_; have HO408 := n2_; have HB := n3_; clear n0_ n1_ n2_ n3_; (try clear hb); (try clear hb2); (try clear hk); (try clear hi); (try clear ho0))))
          (try simp only [Act.put, List.setIfInBounds_toArray, List.set_cons_zero, List.set_cons_succ])
          go_cut [73] (fun v73 wc => ∃ (kq : Nat) (x73_14 : Bool), v73 = .bool x73_14 ∧ Aside0 (shardlaw1_TextApart.j1 kq x5_1 x6_1 t400 t403 t406 x73_14 = some r) ∧ Aside0 (kq ≤ k1) ∧ Aside0 (Kd.R k28 28 wc w.heap.size (fun k_ => some k_ ≠ (v404 : Value).ownBlock ∧ some k_ ≠ (v407 : Value).ownBlock) v401 t400) ∧ Aside0 (Kd.R k28 28 wc w.heap.size (fun k_ => some k_ ≠ (v401 : Value).ownBlock ∧ some k_ ≠ (v407 : Value).ownBlock) v404 t403) ∧ Aside0 (Kd.R k28 28 wc w.heap.size (fun k_ => some k_ ≠ (v401 : Value).ownBlock ∧ some k_ ≠ (v404 : Value).ownBlock) v407 t406) ∧ Aside0 (Below w.heap.size w wc))
          case first =>
            have H := HC15.out
            clear HC15
            by_cases c19 : (t400.length : Int) = x6_1
            · rw [if_pos c19] at H
              have c19b0 : ((t400.length : Int) == x6_1) = true := beq_iff_eq.mpr c19
              have c19b1 : ((t400.length : Int) != x6_1) = false := bne_eq_false_iff_eq.mpr c19
              clear c19
              (first | rw [c19b0] | (simp only [i64_w, i32_w]; rw [c19b0]) | skip)
              have H' := Aside0.mk H
              clear H
              obtain ⟨Ao20, co20, eo20⟩ := Kd.R_slice HO402.out
              subst eo20
              obtain ⟨Ao21, co21, eo21⟩ := Kd.R_slice HO408.out
              subst eo21
              obtain ⟨Ao22, co22, eo22⟩ := Kd.R_slice HO405.out
              subst eo22
              go_wp2
              repeat (go_quiet (fail); try go_wp2)
              go_meet
              case rel => exact ⟨_, (((t406.length : Int) != (wrap64 ((t400.length : Int) + (t403.length : Int))))), (by first | rfl | (simp; done) | (simp [*]; done)), H', ⟨by have := HK1.out; first | omega | exact Nat.le_refl _⟩, ⟨by (with_reducible repeat (first | apply Kd.R_alloc | apply Kd.R_drewN | apply Kd.R_drew)); exact Kd.R_mono HO402.out (fun _ hk => ⟨hk.1.2, hk.2⟩)⟩, ⟨by (with_reducible repeat (first | apply Kd.R_alloc | apply Kd.R_drewN | apply Kd.R_drew)); exact Kd.R_mono HO405.out (fun _ hk => ⟨hk.1.2, hk.2⟩)⟩, ⟨by (with_reducible repeat (first | apply Kd.R_alloc | apply Kd.R_drewN | apply Kd.R_drew)); exact Kd.R_mono HO408.out (fun _ hk => ⟨hk.1.2, hk.2⟩)⟩, ⟨by repeat (first | (with_reducible first | exact HB.out | apply below_alloc | apply pw_below_drewN | apply below_drew1) | exact HB.out)⟩⟩
            · rw [if_neg c19] at H
              have c19b0 : ((t400.length : Int) == x6_1) = false := beq_eq_false_iff_ne.mpr c19
              have c19b1 : ((t400.length : Int) != x6_1) = true := bne_iff_ne.mpr c19
              (first | rw [c19b0] | (simp only [i64_w, i32_w]; rw [c19b0]) | skip)
              have H' := Aside0.mk H
              clear H
              obtain ⟨Ao23, co23, eo23⟩ := Kd.R_slice HO402.out
              subst eo23
              go_wp2
              repeat (go_quiet (fail); try go_wp2)
              go_meet
              case rel => exact ⟨_, (true), (by first | rfl | (simp; done) | (simp [*]; done)), H', ⟨by have := HK1.out; first | omega | exact Nat.le_refl _⟩, ⟨by (with_reducible repeat (first | apply Kd.R_alloc | apply Kd.R_drewN | apply Kd.R_drew)); exact Kd.R_mono HO402.out (fun _ hk => ⟨hk.1.2, hk.2⟩)⟩, ⟨by (with_reducible repeat (first | apply Kd.R_alloc | apply Kd.R_drewN | apply Kd.R_drew)); exact Kd.R_mono HO405.out (fun _ hk => ⟨hk.1.2, hk.2⟩)⟩, ⟨by (with_reducible repeat (first | apply Kd.R_alloc | apply Kd.R_drewN | apply Kd.R_drew)); exact Kd.R_mono HO408.out (fun _ hk => ⟨hk.1.2, hk.2⟩)⟩, ⟨by repeat (first | (with_reducible first | exact HB.out | apply below_alloc | apply pw_below_drewN | apply below_drew1) | exact HB.out)⟩⟩
          case rest =>
            clear HC15
            try clear c1
            try clear p2
            try clear c3
            try clear c3b0
            try clear p3
            try clear q3
            try clear hx3
            try clear c4
            try clear c4b0
            try clear c6
            try clear c6b0
            try clear c6b1
            try clear p6
            try clear c7
            try clear c7b0
            try clear c7b1
            try clear c7b2
            try clear c8
            try clear c8b0
            try clear c8b1
            try clear c9
            try clear c9b0
            try clear c10
            try clear c10b0
            try clear c13
            try clear c13b0
            try clear c13b1
            try clear c13b2
            try clear c19
            try clear c19b0
            try clear c19b1
            try clear hx395_0
            try clear hx398_0
            try clear hx399_0
            try clear p2
            try clear p395
            try clear p398
            try clear p399
            try clear q395
            try clear q398
            try clear q399
            obtain ⟨kq, x73_14, rfl, HA, HJ14, HO_10, HO_11, HO_12, HB⟩ := hcut
            cases kq with
            | zero => exact absurd HA.out (by simp [shardlaw1_TextApart.j1])
            | succ kj14 =>
              have H := HA.out
              clear HA
              simp only [shardlaw1_TextApart.j1] at H
              by_cases c24 : x73_14 = true
              · subst c24
                have H1 : (some false) = some r := by rw [if_pos rfl] at H; exact H
                clear H
                have H := H1
                clear H1
                obtain rfl := Option.some.inj H
                go_wp2
                repeat (go_quiet (fail); try go_wp2)
                go_ret
                exact ⟨by first | rfl | (simp [errW_none, errW_some] <;> rfl) | (simp [*, errW_none, errW_some] <;> rfl), by repeat (first | (with_reducible first | exact HB.out | apply below_alloc | apply pw_below_drewN | apply below_drew1) | exact HB.out)⟩
              · replace c24 := Bool.eq_false_iff.mpr c24
                subst c24
                have H1 : (shardlaw1_TextApart.l1 kj14 x5_1 x6_1 t400 t403 t406 0) = some r := by rw [if_neg (show ¬ (false = true) by decide)] at H; exact H
                clear H
                have H := H1
                clear H1
                have H' := Aside0.mk H
                clear H
                go_wp2
                repeat (go_quiet (fail); try go_wp2)
                go_loopg [13] kj14 (fun kq v13 w' => ∃ (x13_3 : Int), v13 = .int .i64 x13_3 ∧ Aside0 (shardlaw1_TextApart.l1 kq x5_1 x6_1 t400 t403 t406 x13_3 = some r) ∧ Aside0 (kq ≤ kj14) ∧ Aside0 (Kd.R k28 28 w' w.heap.size (fun k_ => some k_ ≠ (v404 : Value).ownBlock ∧ some k_ ≠ (v407 : Value).ownBlock) v401 t400) ∧ Aside0 (Kd.R k28 28 w' w.heap.size (fun k_ => some k_ ≠ (v401 : Value).ownBlock ∧ some k_ ≠ (v407 : Value).ownBlock) v404 t403) ∧ Aside0 (Kd.R k28 28 w' w.heap.size (fun k_ => some k_ ≠ (v401 : Value).ownBlock ∧ some k_ ≠ (v404 : Value).ownBlock) v407 t406) ∧ Aside0 (Below w.heap.size w w'))
                case atStart => exact ⟨(0), (by first | rfl | (simp; done) | (simp [*]; done)), H', ⟨Nat.le_refl _⟩, ⟨by (with_reducible repeat (first | apply Kd.R_alloc | apply Kd.R_drewN | apply Kd.R_drew)); exact HO_10.out⟩, ⟨by (with_reducible repeat (first | apply Kd.R_alloc | apply Kd.R_drewN | apply Kd.R_drew)); exact HO_11.out⟩, ⟨by (with_reducible repeat (first | apply Kd.R_alloc | apply Kd.R_drewN | apply Kd.R_drew)); exact HO_12.out⟩, ⟨by repeat (first | (with_reducible first | exact HB.out | apply below_alloc | apply pw_below_drewN | apply below_drew1) | exact HB.out)⟩⟩
                case round =>
                  clear H'
                  try clear c1
                  try clear c2
                  try clear p2
                  try clear c3
                  try clear c3b0
                  try clear p3
                  try clear q3
                  try clear hx3
                  try clear c4
                  try clear c4b0
                  try clear c6
                  try clear c6b0
                  try clear c6b1
                  try clear p6
                  try clear c7
                  try clear c7b0
                  try clear c7b1
                  try clear c7b2
                  try clear c8
                  try clear c8b0
                  try clear c8b1
                  try clear c9
                  try clear c9b0
                  try clear c10
                  try clear c10b0
                  try clear c13
                  try clear c13b0
                  try clear c13b1
                  try clear c13b2
                  try clear c19
                  try clear c19b0
                  try clear c19b1
                  try clear c24
                  try clear hx395_0
                  try clear hx398_0
                  try clear hx399_0
                  try clear p2
                  try clear p3
                  try clear p395
                  try clear p398
                  try clear p399
                  try clear p6
                  try clear q3
                  try clear q395
                  try clear q398
                  try clear q399
                  obtain ⟨x13_3, rfl, HA, HK3, HO_10, HO_11, HO_12, HB⟩ := hrel
                  cases gk with
                  | zero => exact absurd HA.out (by simp [shardlaw1_TextApart.l1])
                  | succ k3 =>
                    have H := HA.out
                    clear HA
                    simp only [shardlaw1_TextApart.l1] at H
                    by_cases c25 : x13_3 < (t400.length : Int)
                    · rw [if_pos c25] at H
                      have c25b0 : decide (x13_3 < (t400.length : Int)) = true := decide_eq_true c25
                      clear c25
                      by_cases c26 : 0 ≤ x13_3
                      · rw [if_pos c26] at H
                        have c26b0 : decide (0 ≤ x13_3) = true := decide_eq_true c26
                        clear c26
                        by_cases c27 : x13_3 < (t406.length : Int)
                        · rw [if_pos c27] at H
                          have c27b0 : decide (x13_3 < (t406.length : Int)) = true := decide_eq_true c27
                          clear c27
                          by_cases c28 : (!(((rd_T28 t406 x13_3).f0) == ((rd_T28 t400 x13_3).f0)) || (!(((rd_T28 t406 x13_3).f1) == ((rd_T28 t400 x13_3).f1)) || (!(((rd_T28 t406 x13_3).f2) == ((rd_T28 t400 x13_3).f2)) || (!(((rd_T28 t406 x13_3).f3) == ((rd_T28 t400 x13_3).f3)))))) = true
                          · rw [if_pos c28] at H
                            have c28b0 : (!(((rd_T28 t406 x13_3).f0) == ((rd_T28 t400 x13_3).f0)) || (!(((rd_T28 t406 x13_3).f1) == ((rd_T28 t400 x13_3).f1)) || (!(((rd_T28 t406 x13_3).f2) == ((rd_T28 t400 x13_3).f2)) || (!(((rd_T28 t406 x13_3).f3) == ((rd_T28 t400 x13_3).f3)))))) = true := c28
                            clear c28
                            obtain rfl := Option.some.inj H
                            obtain ⟨Ao29, co29, eo29⟩ := Kd.R_slice HO_10.out
                            subst eo29
                            obtain ⟨Ao30, co30, eo30⟩ := Kd.R_slice HO_12.out
                            subst eo30
                            have p409 : 0 ≤ (x13_3 : Int) := of_decide_eq_true (by first | (with_reducible assumption) | assumption)
                            have q409 : x13_3 < (t406.length : Int) := of_decide_eq_true (by first | (with_reducible assumption) | assumption)
                            obtain ⟨ad409, e409, hx409_0, hx409_1, hx409_2, hx409_3⟩ := at_T28 (Kd.R_reads' HO_12.out).2.2 x13_3 p409 q409
                            cases e409
                            replace p409 := eq_true p409
                            replace q409 := eq_true q409
                            have p410 : 0 ≤ (x13_3 : Int) := of_decide_eq_true (by first | (with_reducible assumption) | assumption)
                            have q410 : x13_3 < (t400.length : Int) := of_decide_eq_true (by first | (with_reducible assumption) | assumption)
                            obtain ⟨ad410, e410, hx410_0, hx410_1, hx410_2, hx410_3⟩ := at_T28 (Kd.R_reads' HO_10.out).2.2 x13_3 p410 q410
                            cases e410
                            replace p410 := eq_true p410
                            replace q410 := eq_true q410
                            go_wp2
                            repeat (go_quiet (fail); try go_wp2)
                            go_ret
                            exact ⟨by first | rfl | (simp [errW_none, errW_some] <;> rfl) | (simp [*, errW_none, errW_some] <;> rfl), by repeat (first | (with_reducible first | exact HB.out | apply below_alloc | apply pw_below_drewN | apply below_drew1) | exact HB.out)⟩
                          · rw [if_neg c28] at H
                            have c28b0 : (!(((rd_T28 t406 x13_3).f0) == ((rd_T28 t400 x13_3).f0)) || (!(((rd_T28 t406 x13_3).f1) == ((rd_T28 t400 x13_3).f1)) || (!(((rd_T28 t406 x13_3).f2) == ((rd_T28 t400 x13_3).f2)) || (!(((rd_T28 t406 x13_3).f3) == ((rd_T28 t400 x13_3).f3)))))) = false := by simpa using c28
                            clear c28
                            obtain ⟨bq31, hbq31⟩ : ∃ b_ : Bool, b_ = ((rd_T28 t400 x13_3).f3) := ⟨_, rfl⟩
                            (try rw [← hbq31] at c28b0)
                            replace H : (if bq31 = true then (some false) else (shardlaw1_TextApart.l1 k3 x5_1 x6_1 t400 t403 t406 (wrap64 (x13_3 + 1)))) = some r := by rw [← hbq31] at H; exact H
                            have Nbq31 := Aside0.mk hbq31
                            clear hbq31
                            by_cases c32 : bq31 = true
                            · subst c32
                              (try simp only [beq_true, beq_false, Bool.not_not] at c28b0)
                              have H1 : (some false) = some r := by rw [if_pos rfl] at H; exact H
                              clear H
                              have H := H1
                              clear H1
                              obtain rfl := Option.some.inj H
                              obtain ⟨Ao33, co33, eo33⟩ := Kd.R_slice HO_10.out
                              subst eo33
                              obtain ⟨Ao34, co34, eo34⟩ := Kd.R_slice HO_12.out
                              subst eo34
                              have p409 : 0 ≤ (x13_3 : Int) := of_decide_eq_true (by first | (with_reducible assumption) | assumption)
                              have q409 : x13_3 < (t406.length : Int) := of_decide_eq_true (by first | (with_reducible assumption) | assumption)
                              obtain ⟨ad409, e409, hx409_0, hx409_1, hx409_2, hx409_3⟩ := at_T28 (Kd.R_reads' HO_12.out).2.2 x13_3 p409 q409
                              (try rw [← Nbq31.out] at hx409_3)
                              cases e409
                              replace p409 := eq_true p409
                              replace q409 := eq_true q409
                              have p410 : 0 ≤ (x13_3 : Int) := of_decide_eq_true (by first | (with_reducible assumption) | assumption)
                              have q410 : x13_3 < (t400.length : Int) := of_decide_eq_true (by first | (with_reducible assumption) | assumption)
                              obtain ⟨ad410, e410, hx410_0, hx410_1, hx410_2, hx410_3⟩ := at_T28 (Kd.R_reads' HO_10.out).2.2 x13_3 p410 q410
                              (try rw [← Nbq31.out] at hx410_3)
                              cases e410
                              replace p410 := eq_true p410
                              replace q410 := eq_true q410
                              have p411 : 0 ≤ (x13_3 : Int) := of_decide_eq_true (by first | (with_reducible assumption) | assumption)
                              have q411 : x13_3 < (t400.length : Int) := of_decide_eq_true (by first | (with_reducible assumption) | assumption)
                              obtain ⟨ad411, e411, hx411_0, hx411_1, hx411_2, hx411_3⟩ := at_T28 (Kd.R_reads' HO_10.out).2.2 x13_3 p411 q411
                              (try rw [← Nbq31.out] at hx411_3)
                              obtain rfl : ad410 = ad411 := (by injection e411)
                              replace p411 := eq_true p411
                              replace q411 := eq_true q411
                              go_wp2
                              repeat (go_quiet (fail); try go_wp2)
                              go_ret
                              exact ⟨by first | rfl | (simp [errW_none, errW_some] <;> rfl) | (simp [*, errW_none, errW_some] <;> rfl), by repeat (first | (with_reducible first | exact HB.out | apply below_alloc | apply pw_below_drewN | apply below_drew1) | exact HB.out)⟩
                            · replace c32 := Bool.eq_false_iff.mpr c32
                              subst c32
                              (try simp only [beq_true, beq_false, Bool.not_not] at c28b0)
                              have H1 : (shardlaw1_TextApart.l1 k3 x5_1 x6_1 t400 t403 t406 (wrap64 (x13_3 + 1))) = some r := by rw [if_neg (show ¬ (false = true) by decide)] at H; exact H
                              clear H
                              have H := H1
                              clear H1
                              have H' := Aside0.mk H
                              clear H
                              obtain ⟨Ao35, co35, eo35⟩ := Kd.R_slice HO_10.out
                              subst eo35
                              obtain ⟨Ao36, co36, eo36⟩ := Kd.R_slice HO_12.out
                              subst eo36
                              have p409 : 0 ≤ (x13_3 : Int) := of_decide_eq_true (by first | (with_reducible assumption) | assumption)
                              have q409 : x13_3 < (t406.length : Int) := of_decide_eq_true (by first | (with_reducible assumption) | assumption)
                              obtain ⟨ad409, e409, hx409_0, hx409_1, hx409_2, hx409_3⟩ := at_T28 (Kd.R_reads' HO_12.out).2.2 x13_3 p409 q409
                              (try rw [← Nbq31.out] at hx409_3)
                              cases e409
                              replace p409 := eq_true p409
                              replace q409 := eq_true q409
                              have p410 : 0 ≤ (x13_3 : Int) := of_decide_eq_true (by first | (with_reducible assumption) | assumption)
                              have q410 : x13_3 < (t400.length : Int) := of_decide_eq_true (by first | (with_reducible assumption) | assumption)
                              obtain ⟨ad410, e410, hx410_0, hx410_1, hx410_2, hx410_3⟩ := at_T28 (Kd.R_reads' HO_10.out).2.2 x13_3 p410 q410
                              (try rw [← Nbq31.out] at hx410_3)
                              cases e410
                              replace p410 := eq_true p410
                              replace q410 := eq_true q410
                              have p411 : 0 ≤ (x13_3 : Int) := of_decide_eq_true (by first | (with_reducible assumption) | assumption)
                              have q411 : x13_3 < (t400.length : Int) := of_decide_eq_true (by first | (with_reducible assumption) | assumption)
                              obtain ⟨ad411, e411, hx411_0, hx411_1, hx411_2, hx411_3⟩ := at_T28 (Kd.R_reads' HO_10.out).2.2 x13_3 p411 q411
                              (try rw [← Nbq31.out] at hx411_3)
                              obtain rfl : ad410 = ad411 := (by injection e411)
                              replace p411 := eq_true p411
                              replace q411 := eq_true q411
                              go_wp2
                              repeat (go_quiet (fail); try go_wp2)
                              go_roundg k3
                              case measure => have := HK1.out; have := HJ14.out; have := HK3.out; omega
                              case rel => exact ⟨(wrap64 (x13_3 + 1)), (by first | rfl | (simp; done) | (simp [*]; done)), H', ⟨by have := HK1.out; have := HJ14.out; have := HK3.out; omega⟩, ⟨by (with_reducible repeat (first | apply Kd.R_alloc | apply Kd.R_drewN | apply Kd.R_drew)); exact HO_10.out⟩, ⟨by (with_reducible repeat (first | apply Kd.R_alloc | apply Kd.R_drewN | apply Kd.R_drew)); exact HO_11.out⟩, ⟨by (with_reducible repeat (first | apply Kd.R_alloc | apply Kd.R_drewN | apply Kd.R_drew)); exact HO_12.out⟩, ⟨by repeat (first | (with_reducible first | exact HB.out | apply below_alloc | apply pw_below_drewN | apply below_drew1) | exact HB.out)⟩⟩
                        · rw [if_neg c27] at H
                          exact absurd H (by simp)
                      · rw [if_neg c26] at H
                        exact absurd H (by simp)
                    · rw [if_neg c25] at H
                      have c25b0 : decide (x13_3 < (t400.length : Int)) = false := decide_eq_false c25
                      clear c25
                      have H' := Aside0.mk H
                      clear H
                      obtain ⟨Ao37, co37, eo37⟩ := Kd.R_slice HO_10.out
                      subst eo37
                      go_wp2
                      repeat (go_quiet (fail); try go_wp2)
                      go_loopg [14] k3 (fun kq v14 w' => ∃ (x14_4 : Int), v14 = .int .i64 x14_4 ∧ Aside0 (shardlaw1_TextApart.l2 kq x5_1 x6_1 t403 t406 x14_4 = some r) ∧ Aside0 (kq ≤ k3) ∧ Aside0 (Kd.R k28 28 w' w.heap.size (fun k_ => some k_ ≠ (v407 : Value).ownBlock) v404 t403) ∧ Aside0 (Kd.R k28 28 w' w.heap.size (fun k_ => some k_ ≠ (v404 : Value).ownBlock) v407 t406) ∧ Aside0 (Below w.heap.size w w'))
                      case atStart => exact ⟨(0), (by first | rfl | (simp; done) | (simp [*]; done)), H', ⟨Nat.le_refl _⟩, ⟨by (with_reducible repeat (first | apply Kd.R_alloc | apply Kd.R_drewN | apply Kd.R_drew)); exact Kd.R_mono HO_11.out (fun _ hk => hk.2)⟩, ⟨by (with_reducible repeat (first | apply Kd.R_alloc | apply Kd.R_drewN | apply Kd.R_drew)); exact Kd.R_mono HO_12.out (fun _ hk => hk.2)⟩, ⟨by repeat (first | (with_reducible first | exact HB.out | apply below_alloc | apply pw_below_drewN | apply below_drew1) | exact HB.out)⟩⟩
                      case round =>
                        clear H'
                        try clear c1
                        try clear c2
                        try clear p2
                        try clear c3
                        try clear c3b0
                        try clear p3
                        try clear q3
                        try clear hx3
                        try clear c4
                        try clear c4b0
                        try clear p4
                        try clear q4
                        try clear hx4
                        try clear c6
                        try clear c6b0
                        try clear c6b1
                        try clear p6
                        try clear c7
                        try clear c7b0
                        try clear c7b1
                        try clear c7b2
                        try clear c8
                        try clear c8b0
                        try clear c8b1
                        try clear c9
                        try clear c9b0
                        try clear c10
                        try clear c10b0
                        try clear c13
                        try clear c13b0
                        try clear c13b1
                        try clear c13b2
                        try clear c19
                        try clear c19b0
                        try clear c19b1
                        try clear c24
                        try clear c25
                        try clear c25b0
                        try clear c26
                        try clear c26b0
                        try clear c27
                        try clear c27b0
                        try clear c28
                        try clear c28b0
                        try clear q31
                        try clear c32
                        try clear hx395_0
                        try clear hx398_0
                        try clear hx399_0
                        try clear hx409_0
                        try clear hx409_1
                        try clear hx409_2
                        try clear hx409_3
                        try clear hx410_0
                        try clear hx410_1
                        try clear hx410_2
                        try clear hx410_3
                        try clear hx411_0
                        try clear hx411_1
                        try clear hx411_2
                        try clear hx411_3
                        try clear p2
                        try clear p3
                        try clear p395
                        try clear p398
                        try clear p399
                        try clear p409
                        try clear p410
                        try clear p411
                        try clear p6
                        try clear q3
                        try clear q395
                        try clear q398
                        try clear q399
                        try clear q409
                        try clear q410
                        try clear q411
                        obtain ⟨x14_4, rfl, HA, HK4, HO_11, HO_12, HB⟩ := hrel
                        cases gk with
                        | zero => exact absurd HA.out (by simp [shardlaw1_TextApart.l2])
                        | succ k4 =>
                          have H := HA.out
                          clear HA
                          simp only [shardlaw1_TextApart.l2] at H
                          by_cases c38 : x14_4 < (t403.length : Int)
                          · rw [if_pos c38] at H
                            have c38b0 : decide (x14_4 < (t403.length : Int)) = true := decide_eq_true c38
                            clear c38
                            obtain ⟨ji39, hji39⟩ : ∃ j_ : Int, (wrap64 (x6_1 + x14_4)) = j_ := ⟨_, rfl⟩
                            replace H : (if 0 ≤ (ji39) then (if (ji39) < (t406.length : Int) then (if 0 ≤ x14_4 then (if ((rd_T28 t406 (ji39)).f0) = ((rd_T28 t403 x14_4).f0) then (if ((rd_T28 t406 (ji39)).f1) = (wrap64 (((rd_T28 t403 x14_4).f1) + (x5_1.size : Int))) then (if (((rd_T28 t406 (ji39)).f3) != ((rd_T28 t403 x14_4).f3)) = true then (some false) else (shardlaw1_TextApart.l2 k4 x5_1 x6_1 t403 t406 (wrap64 (x14_4 + 1)))) else (some false)) else (some false)) else (none)) else (none)) else (none)) = some r := by first | (rw [hji39] at H; exact H) | (simp only [hji39] at H ⊢; exact H)
                            have hji39w : (IntKind.i64.wrap (x6_1 + x14_4)) = ji39 := (i64_w _).trans hji39
                            by_cases c40 : 0 ≤ (ji39)
                            · rw [if_pos c40] at H
                              have c40b0 : decide (0 ≤ (ji39)) = true := decide_eq_true c40
                              clear c40
                              by_cases c41 : (ji39) < (t406.length : Int)
                              · rw [if_pos c41] at H
                                have c41b0 : decide ((ji39) < (t406.length : Int)) = true := decide_eq_true c41
                                clear c41
                                by_cases c42 : 0 ≤ x14_4
                                · rw [if_pos c42] at H
                                  have c42b0 : decide (0 ≤ x14_4) = true := decide_eq_true c42
                                  clear c42
                                  by_cases c43 : ((rd_T28 t406 (ji39)).f0) = ((rd_T28 t403 x14_4).f0)
                                  · rw [if_pos c43] at H
                                    have c43b0 : (((rd_T28 t406 (ji39)).f0) == ((rd_T28 t403 x14_4).f0)) = true := beq_iff_eq.mpr c43
                                    have c43b1 : (((rd_T28 t406 (ji39)).f0) != ((rd_T28 t403 x14_4).f0)) = false := bne_eq_false_iff_eq.mpr c43
                                    clear c43
                                    by_cases c44 : ((rd_T28 t406 (ji39)).f1) = (wrap64 (((rd_T28 t403 x14_4).f1) + (x5_1.size : Int)))
                                    · rw [if_pos c44] at H
                                      have c44b0 : (((rd_T28 t406 (ji39)).f1) == (wrap64 (((rd_T28 t403 x14_4).f1) + (x5_1.size : Int)))) = true := beq_iff_eq.mpr c44
                                      have c44b1 : (((rd_T28 t406 (ji39)).f1) != (wrap64 (((rd_T28 t403 x14_4).f1) + (x5_1.size : Int)))) = false := bne_eq_false_iff_eq.mpr c44
                                      clear c44
                                      by_cases c45 : (((rd_T28 t406 (ji39)).f3) != ((rd_T28 t403 x14_4).f3)) = true
                                      · rw [if_pos c45] at H
                                        have c45b0 : (((rd_T28 t406 (ji39)).f3) != ((rd_T28 t403 x14_4).f3)) = true := c45
                                        (try (have c45b1 : decide (((rd_T28 t406 (ji39)).f3) = ((rd_T28 t403 x14_4).f3)) = false := by simpa using c45))
                                        (try (have c45b2 : (((rd_T28 t406 (ji39)).f3) == ((rd_T28 t403 x14_4).f3)) = false := by simpa using c45))
                                        (try (have c45b3 : ¬ (((rd_T28 t406 (ji39)).f3) = ((rd_T28 t403 x14_4).f3)) := by simpa using c45))
                                        clear c45
                                        obtain rfl := Option.some.inj H
                                        obtain ⟨Ao46, co46, eo46⟩ := Kd.R_slice HO_11.out
                                        subst eo46
                                        obtain ⟨Ao47, co47, eo47⟩ := Kd.R_slice HO_12.out
                                        subst eo47
                                        have p412 : 0 ≤ ((ji39) : Int) := of_decide_eq_true (by first | (with_reducible assumption) | assumption)
                                        have q412 : (ji39) < (t406.length : Int) := of_decide_eq_true (by first | (with_reducible assumption) | assumption)
                                        obtain ⟨ad412, e412, hx412_0, hx412_1, hx412_2, hx412_3⟩ := at_T28 (Kd.R_reads' HO_12.out).2.2 (ji39) p412 q412
                                        cases e412
                                        replace p412 := eq_true p412
                                        replace q412 := eq_true q412
                                        have p413 : 0 ≤ (x14_4 : Int) := of_decide_eq_true (by first | (with_reducible assumption) | assumption)
                                        have q413 : x14_4 < (t403.length : Int) := of_decide_eq_true (by first | (with_reducible assumption) | assumption)
                                        obtain ⟨ad413, e413, hx413_0, hx413_1, hx413_2, hx413_3⟩ := at_T28 (Kd.R_reads' HO_11.out).2.2 x14_4 p413 q413
                                        cases e413
                                        replace p413 := eq_true p413
                                        replace q413 := eq_true q413
                                        have p414 : 0 ≤ ((ji39) : Int) := of_decide_eq_true (by first | (with_reducible assumption) | assumption)
                                        have q414 : (ji39) < (t406.length : Int) := of_decide_eq_true (by first | (with_reducible assumption) | assumption)
                                        obtain ⟨ad414, e414, hx414_0, hx414_1, hx414_2, hx414_3⟩ := at_T28 (Kd.R_reads' HO_12.out).2.2 (ji39) p414 q414
                                        obtain rfl : ad412 = ad414 := (by injection e414)
                                        replace p414 := eq_true p414
                                        replace q414 := eq_true q414
                                        have p415 : 0 ≤ (x14_4 : Int) := of_decide_eq_true (by first | (with_reducible assumption) | assumption)
                                        have q415 : x14_4 < (t403.length : Int) := of_decide_eq_true (by first | (with_reducible assumption) | assumption)
                                        obtain ⟨ad415, e415, hx415_0, hx415_1, hx415_2, hx415_3⟩ := at_T28 (Kd.R_reads' HO_11.out).2.2 x14_4 p415 q415
                                        obtain rfl : ad413 = ad415 := (by injection e415)
                                        replace p415 := eq_true p415
                                        replace q415 := eq_true q415
                                        have p416 : 0 ≤ ((ji39) : Int) := of_decide_eq_true (by first | (with_reducible assumption) | assumption)
                                        have q416 : (ji39) < (t406.length : Int) := of_decide_eq_true (by first | (with_reducible assumption) | assumption)
                                        obtain ⟨ad416, e416, hx416_0, hx416_1, hx416_2, hx416_3⟩ := at_T28 (Kd.R_reads' HO_12.out).2.2 (ji39) p416 q416
                                        obtain rfl : ad412 = ad416 := (by injection e416)
                                        replace p416 := eq_true p416
                                        replace q416 := eq_true q416
                                        have p417 : 0 ≤ (x14_4 : Int) := of_decide_eq_true (by first | (with_reducible assumption) | assumption)
                                        have q417 : x14_4 < (t403.length : Int) := of_decide_eq_true (by first | (with_reducible assumption) | assumption)
                                        obtain ⟨ad417, e417, hx417_0, hx417_1, hx417_2, hx417_3⟩ := at_T28 (Kd.R_reads' HO_11.out).2.2 x14_4 p417 q417
                                        obtain rfl : ad413 = ad417 := (by injection e417)
                                        replace p417 := eq_true p417
                                        replace q417 := eq_true q417
                                        go_wp2
                                        repeat (go_quiet (fail); try go_wp2)
                                        go_ret
                                        exact ⟨by first | rfl | (simp [errW_none, errW_some] <;> rfl) | (simp only [← hji39]; first | rfl | (simp [errW_none, errW_some] <;> rfl)) | (simp [*, errW_none, errW_some] <;> rfl), by repeat (first | (with_reducible first | exact HB.out | apply below_alloc | apply pw_below_drewN | apply below_drew1) | exact HB.out)⟩
                                      · rw [if_neg c45] at H
                                        have c45b0 : (((rd_T28 t406 (ji39)).f3) != ((rd_T28 t403 x14_4).f3)) = false := by simpa using c45
                                        (try (have c45b1 : decide (((rd_T28 t406 (ji39)).f3) = ((rd_T28 t403 x14_4).f3)) = true := by simpa using c45))
                                        (try (have c45b2 : (((rd_T28 t406 (ji39)).f3) == ((rd_T28 t403 x14_4).f3)) = true := by simpa using c45))
                                        clear c45
                                        have H' := Aside0.mk H
                                        clear H
                                        obtain ⟨Ao48, co48, eo48⟩ := Kd.R_slice HO_11.out
                                        subst eo48
                                        obtain ⟨Ao49, co49, eo49⟩ := Kd.R_slice HO_12.out
                                        subst eo49
                                        have p412 : 0 ≤ ((ji39) : Int) := of_decide_eq_true (by first | (with_reducible assumption) | assumption)
                                        have q412 : (ji39) < (t406.length : Int) := of_decide_eq_true (by first | (with_reducible assumption) | assumption)
                                        obtain ⟨ad412, e412, hx412_0, hx412_1, hx412_2, hx412_3⟩ := at_T28 (Kd.R_reads' HO_12.out).2.2 (ji39) p412 q412
                                        cases e412
                                        replace p412 := eq_true p412
                                        replace q412 := eq_true q412
                                        have p413 : 0 ≤ (x14_4 : Int) := of_decide_eq_true (by first | (with_reducible assumption) | assumption)
                                        have q413 : x14_4 < (t403.length : Int) := of_decide_eq_true (by first | (with_reducible assumption) | assumption)
                                        obtain ⟨ad413, e413, hx413_0, hx413_1, hx413_2, hx413_3⟩ := at_T28 (Kd.R_reads' HO_11.out).2.2 x14_4 p413 q413
                                        cases e413
                                        replace p413 := eq_true p413
                                        replace q413 := eq_true q413
                                        have p414 : 0 ≤ ((ji39) : Int) := of_decide_eq_true (by first | (with_reducible assumption) | assumption)
                                        have q414 : (ji39) < (t406.length : Int) := of_decide_eq_true (by first | (with_reducible assumption) | assumption)
                                        obtain ⟨ad414, e414, hx414_0, hx414_1, hx414_2, hx414_3⟩ := at_T28 (Kd.R_reads' HO_12.out).2.2 (ji39) p414 q414
                                        obtain rfl : ad412 = ad414 := (by injection e414)
                                        replace p414 := eq_true p414
                                        replace q414 := eq_true q414
                                        have p415 : 0 ≤ (x14_4 : Int) := of_decide_eq_true (by first | (with_reducible assumption) | assumption)
                                        have q415 : x14_4 < (t403.length : Int) := of_decide_eq_true (by first | (with_reducible assumption) | assumption)
                                        obtain ⟨ad415, e415, hx415_0, hx415_1, hx415_2, hx415_3⟩ := at_T28 (Kd.R_reads' HO_11.out).2.2 x14_4 p415 q415
                                        obtain rfl : ad413 = ad415 := (by injection e415)
                                        replace p415 := eq_true p415
                                        replace q415 := eq_true q415
                                        have p416 : 0 ≤ ((ji39) : Int) := of_decide_eq_true (by first | (with_reducible assumption) | assumption)
                                        have q416 : (ji39) < (t406.length : Int) := of_decide_eq_true (by first | (with_reducible assumption) | assumption)
                                        obtain ⟨ad416, e416, hx416_0, hx416_1, hx416_2, hx416_3⟩ := at_T28 (Kd.R_reads' HO_12.out).2.2 (ji39) p416 q416
                                        obtain rfl : ad412 = ad416 := (by injection e416)
                                        replace p416 := eq_true p416
                                        replace q416 := eq_true q416
                                        have p417 : 0 ≤ (x14_4 : Int) := of_decide_eq_true (by first | (with_reducible assumption) | assumption)
                                        have q417 : x14_4 < (t403.length : Int) := of_decide_eq_true (by first | (with_reducible assumption) | assumption)
                                        obtain ⟨ad417, e417, hx417_0, hx417_1, hx417_2, hx417_3⟩ := at_T28 (Kd.R_reads' HO_11.out).2.2 x14_4 p417 q417
                                        obtain rfl : ad413 = ad417 := (by injection e417)
                                        replace p417 := eq_true p417
                                        replace q417 := eq_true q417
                                        go_wp2
                                        repeat (go_quiet (fail); try go_wp2)
                                        go_roundg k4
                                        case measure => have := HK1.out; have := HJ14.out; have := HK3.out; have := HK4.out; omega
                                        case rel => exact ⟨(wrap64 (x14_4 + 1)), (by first | rfl | (simp; done) | (simp [*]; done)), H', ⟨by have := HK1.out; have := HJ14.out; have := HK3.out; have := HK4.out; omega⟩, ⟨by (with_reducible repeat (first | apply Kd.R_alloc | apply Kd.R_drewN | apply Kd.R_drew)); exact HO_11.out⟩, ⟨by (with_reducible repeat (first | apply Kd.R_alloc | apply Kd.R_drewN | apply Kd.R_drew)); exact HO_12.out⟩, ⟨by repeat (first | (with_reducible first | exact HB.out | apply below_alloc | apply pw_below_drewN | apply below_drew1) | exact HB.out)⟩⟩
                                    · rw [if_neg c44] at H
                                      have c44b0 : (((rd_T28 t406 (ji39)).f1) == (wrap64 (((rd_T28 t403 x14_4).f1) + (x5_1.size : Int)))) = false := beq_eq_false_iff_ne.mpr c44
                                      have c44b1 : (((rd_T28 t406 (ji39)).f1) != (wrap64 (((rd_T28 t403 x14_4).f1) + (x5_1.size : Int)))) = true := bne_iff_ne.mpr c44
                                      obtain rfl := Option.some.inj H
                                      obtain ⟨Ao50, co50, eo50⟩ := Kd.R_slice HO_11.out
                                      subst eo50
                                      obtain ⟨Ao51, co51, eo51⟩ := Kd.R_slice HO_12.out
                                      subst eo51
                                      have p412 : 0 ≤ ((ji39) : Int) := of_decide_eq_true (by first | (with_reducible assumption) | assumption)
                                      have q412 : (ji39) < (t406.length : Int) := of_decide_eq_true (by first | (with_reducible assumption) | assumption)
                                      obtain ⟨ad412, e412, hx412_0, hx412_1, hx412_2, hx412_3⟩ := at_T28 (Kd.R_reads' HO_12.out).2.2 (ji39) p412 q412
                                      cases e412
                                      replace p412 := eq_true p412
                                      replace q412 := eq_true q412
                                      have p413 : 0 ≤ (x14_4 : Int) := of_decide_eq_true (by first | (with_reducible assumption) | assumption)
                                      have q413 : x14_4 < (t403.length : Int) := of_decide_eq_true (by first | (with_reducible assumption) | assumption)
                                      obtain ⟨ad413, e413, hx413_0, hx413_1, hx413_2, hx413_3⟩ := at_T28 (Kd.R_reads' HO_11.out).2.2 x14_4 p413 q413
                                      cases e413
                                      replace p413 := eq_true p413
                                      replace q413 := eq_true q413
                                      have p414 : 0 ≤ ((ji39) : Int) := of_decide_eq_true (by first | (with_reducible assumption) | assumption)
                                      have q414 : (ji39) < (t406.length : Int) := of_decide_eq_true (by first | (with_reducible assumption) | assumption)
                                      obtain ⟨ad414, e414, hx414_0, hx414_1, hx414_2, hx414_3⟩ := at_T28 (Kd.R_reads' HO_12.out).2.2 (ji39) p414 q414
                                      obtain rfl : ad412 = ad414 := (by injection e414)
                                      replace p414 := eq_true p414
                                      replace q414 := eq_true q414
                                      have p415 : 0 ≤ (x14_4 : Int) := of_decide_eq_true (by first | (with_reducible assumption) | assumption)
                                      have q415 : x14_4 < (t403.length : Int) := of_decide_eq_true (by first | (with_reducible assumption) | assumption)
                                      obtain ⟨ad415, e415, hx415_0, hx415_1, hx415_2, hx415_3⟩ := at_T28 (Kd.R_reads' HO_11.out).2.2 x14_4 p415 q415
                                      obtain rfl : ad413 = ad415 := (by injection e415)
                                      replace p415 := eq_true p415
                                      replace q415 := eq_true q415
                                      go_wp2
                                      repeat (go_quiet (fail); try go_wp2)
                                      go_ret
                                      exact ⟨by first | rfl | (simp [errW_none, errW_some] <;> rfl) | (simp only [← hji39]; first | rfl | (simp [errW_none, errW_some] <;> rfl)) | (simp [*, errW_none, errW_some] <;> rfl), by repeat (first | (with_reducible first | exact HB.out | apply below_alloc | apply pw_below_drewN | apply below_drew1) | exact HB.out)⟩
                                  · rw [if_neg c43] at H
                                    have c43b0 : (((rd_T28 t406 (ji39)).f0) == ((rd_T28 t403 x14_4).f0)) = false := beq_eq_false_iff_ne.mpr c43
                                    have c43b1 : (((rd_T28 t406 (ji39)).f0) != ((rd_T28 t403 x14_4).f0)) = true := bne_iff_ne.mpr c43
                                    obtain rfl := Option.some.inj H
                                    obtain ⟨Ao52, co52, eo52⟩ := Kd.R_slice HO_11.out
                                    subst eo52
                                    obtain ⟨Ao53, co53, eo53⟩ := Kd.R_slice HO_12.out
                                    subst eo53
                                    have p412 : 0 ≤ ((ji39) : Int) := of_decide_eq_true (by first | (with_reducible assumption) | assumption)
                                    have q412 : (ji39) < (t406.length : Int) := of_decide_eq_true (by first | (with_reducible assumption) | assumption)
                                    obtain ⟨ad412, e412, hx412_0, hx412_1, hx412_2, hx412_3⟩ := at_T28 (Kd.R_reads' HO_12.out).2.2 (ji39) p412 q412
                                    cases e412
                                    replace p412 := eq_true p412
                                    replace q412 := eq_true q412
                                    have p413 : 0 ≤ (x14_4 : Int) := of_decide_eq_true (by first | (with_reducible assumption) | assumption)
                                    have q413 : x14_4 < (t403.length : Int) := of_decide_eq_true (by first | (with_reducible assumption) | assumption)
                                    obtain ⟨ad413, e413, hx413_0, hx413_1, hx413_2, hx413_3⟩ := at_T28 (Kd.R_reads' HO_11.out).2.2 x14_4 p413 q413
                                    cases e413
                                    replace p413 := eq_true p413
                                    replace q413 := eq_true q413
                                    go_wp2
                                    repeat (go_quiet (fail); try go_wp2)
                                    go_ret
                                    exact ⟨by first | rfl | (simp [errW_none, errW_some] <;> rfl) | (simp only [← hji39]; first | rfl | (simp [errW_none, errW_some] <;> rfl)) | (simp [*, errW_none, errW_some] <;> rfl), by repeat (first | (with_reducible first | exact HB.out | apply below_alloc | apply pw_below_drewN | apply below_drew1) | exact HB.out)⟩
                                · rw [if_neg c42] at H
                                  exact absurd H (by simp)
                              · rw [if_neg c41] at H
                                exact absurd H (by simp)
                            · rw [if_neg c40] at H
                              exact absurd H (by simp)
                          · rw [if_neg c38] at H
                            have c38b0 : decide (x14_4 < (t403.length : Int)) = false := decide_eq_false c38
                            clear c38
                            obtain rfl := Option.some.inj H
                            obtain ⟨Ao54, co54, eo54⟩ := Kd.R_slice HO_11.out
                            subst eo54
                            go_wp2
                            repeat (go_quiet (fail); try go_wp2)
                            go_ret
                            exact ⟨by first | rfl | (simp [errW_none, errW_some] <;> rfl) | (simp [*, errW_none, errW_some] <;> rfl), by repeat (first | (with_reducible first | exact HB.out | apply below_alloc | apply pw_below_drewN | apply below_drew1) | exact HB.out)⟩
        · rw [if_neg c13] at H
          exact absurd H (by simp)

/-- THE ONE PURE STATEMENT of shardlaw1_TextApart: yours. -/
def shardlaw1_TextApart.Pure : Prop := ∀ (l0 : List Int) (a1 : ByteArray), l0.length ≤ maxLen → l0.length * 4 ≤ 140737488351232 → (∀ x ∈ l0, (Lit.int .i32 x).wf = true) → a1.size ≤ 140737488351232 → ∃ k, shardlaw1_TextApart.f k l0 a1 = some true
theorem shardlaw1_TextApart.walk (P : shardlaw1_TextApart.Pure) (a0 : Option Addr) (len0 cap0 : Nat) (z0 : List Int) (a1 : ByteArray) (w : World) (w0 : (a0 = none ∧ len0 = 0 ∧ cap0 = 0 ∧ z0 = []) ∨ ∃ x, a0 = some x ∧ len0 ≤ cap0 ∧ cap0 ≤ maxLen ∧ z0.length = cap0 ∧ (∀ i, i < z0.length → w.cell? (x.add i) = some (.int .i32 (z0.getD i 0))) ∧ ∀ n ∈ z0, (Lit.int .i32 n).wf = true) (y0 : len0 * 4 ≤ 140737488351232) (w1 : a1.size ≤ 140737488351232) :
    Calls Try.prog 7 #[.slice a0 len0 cap0, .string a1] w fun e w' => e = .returned (.bool true) ∧ Below w.heap.size w w' := by
  obtain ⟨l0, rfl, hr0, hm0, hw0, hc0⟩ := ReadsInt.ofRowC w0
  obtain ⟨k, h⟩ := P l0 a1 hm0 y0 hw0 w1
  refine (shardlaw1_TextApart.calls k _ _ l0 a1 true w (Kd.C_of_reads (d := (0 : Int)) (h1 := fun _ => rfl) hr0) hc0 h).mono ?_
  rintro e w' ⟨rfl, hd⟩
  exact ⟨rfl, hd⟩

end Go.Proofs.Ytplhcnlpfoiieaa.P
