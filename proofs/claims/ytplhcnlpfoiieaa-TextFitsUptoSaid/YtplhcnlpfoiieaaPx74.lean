-- Written by printx.py (this work's driver over the kit's print) out of the translation; Lean checks it.
import Derived.Test.YtplhcnlpfoiieaaPx0
import Derived.Test.YtplhcnlpfoiieaaPx5
import Derived.Test.YtplhcnlpfoiieaaPx50
import Derived.Test.YtplhcnlpfoiieaaPx66
import Derived.Test.YtplhcnlpfoiieaaPx67
namespace Go.Proofs.Ytplhcnlpfoiieaa.P
open Go.RowKit Go.Proofs.YtplhcnlpfoiieaaW.PrintWords Go.Proofs.YtplhcnlpfoiieaaW.PrintLast Go.Proofs.YtplhcnlpfoiieaaW.PrintMore
attribute [local go_sem] max2_int min2_int max_two min_two max_three min_three max_four min_four   -- for this text's walks alone
set_option linter.unusedVariables false
set_option linter.unusedSimpArgs false

/-! ### shardlaw1_TextFits: function 11 -/
mutual
def shardlaw1_TextFits.j0 : Nat → ByteArray → Int → Int → ByteArray → Int → Bool → Option (Bool)
  | 0, _, _, _, _, _, _ => none
  | k + 1, x0, x1, x2, x7, x8, x31 => if x31 = true then (some false) else (if x1 ≥ 0 then (shardlaw1_TextFits.j1 k x0 x1 x2 x7 x8 (decide (x8 > x1))) else (shardlaw1_TextFits.j1 k x0 x1 x2 x7 x8 false))
def shardlaw1_TextFits.j1 : Nat → ByteArray → Int → Int → ByteArray → Int → Bool → Option (Bool)
  | 0, _, _, _, _, _, _ => none
  | k + 1, x0, x1, x2, x7, x8, x38 => if x38 = true then (some false) else (if (x7.size : Int) < (x0.size : Int) then (shardlaw1_TextFits.j2 k x0 x1 x2 x7 x8 (decide (x1 ≥ 0))) else (shardlaw1_TextFits.j2 k x0 x1 x2 x7 x8 false))
def shardlaw1_TextFits.j2 : Nat → ByteArray → Int → Int → ByteArray → Int → Bool → Option (Bool)
  | 0, _, _, _, _, _, _ => none
  | k + 1, x0, x1, x2, x7, x8, x47 => if x47 = true then (if 0 ≤ (x7.size : Int) then (if (x7.size : Int) ≤ (x0.size : Int) then ((text_Pieces.f (x0.extract ((x7.size : Int) : Int).toNat x0.size)).bind fun t472 => (if (t472.length : Int) = 0 then (shardlaw1_TextFits.j3 k x0 x1 x2 x7 x8 t472 true) else (if 0 < (t472.length : Int) then (if ((rd_T28 t472 0).f2) < 1 then (shardlaw1_TextFits.j3 k x0 x1 x2 x7 x8 t472 true) else (shardlaw1_TextFits.j3 k x0 x1 x2 x7 x8 t472 (decide (((rd_T28 t472 0).f2) > (wrap64 ((x0.size : Int) - (x7.size : Int))))))) else (none)))) else (none)) else (none)) else (shardlaw1_TextFits.j4 k x1 x2 x7 x8)
def shardlaw1_TextFits.j4 : Nat → Int → Int → ByteArray → Int → Option (Bool)
  | 0, _, _, _, _ => none
  | k + 1, x1, x2, x7, x8 => (text_Pad.f k x7 x1 x2).bind fun bt479 => (if x1 < 0 then (shardlaw1_TextFits.j5 k x1 x2 x7 x8 bt479.1 bt479.2 true) else (if x1 > 400 then (shardlaw1_TextFits.j5 k x1 x2 x7 x8 bt479.1 bt479.2 true) else (if x2 < 0 then (shardlaw1_TextFits.j5 k x1 x2 x7 x8 bt479.1 bt479.2 true) else (shardlaw1_TextFits.j5 k x1 x2 x7 x8 bt479.1 bt479.2 (decide (x2 > 2))))))
def shardlaw1_TextFits.j5 : Nat → Int → Int → ByteArray → Int → ByteArray → Int → Bool → Option (Bool)
  | 0, _, _, _, _, _, _, _ => none
  | k + 1, x1, x2, x7, x8, x10, x11, x111 => if x111 = true then (if x11 = 2 then (some (x10.toList == ([] : List UInt8))) else (some false)) else ((text_Width.f k x10).bind fun t481 => (if x11 = 0 then (if t481 = x1 then (shardlaw1_TextFits.j6 k x1 x2 x7 x8 x10 ((x10.size : Int) != (wrap64 ((wrap64 ((x7.size : Int) + x1)) - x8)))) else (shardlaw1_TextFits.j6 k x1 x2 x7 x8 x10 true)) else (shardlaw1_TextFits.j6 k x1 x2 x7 x8 x10 true)))
def shardlaw1_TextFits.j6 : Nat → Int → Int → ByteArray → Int → ByteArray → Bool → Option (Bool)
  | 0, _, _, _, _, _, _ => none
  | k + 1, x1, x2, x7, x8, x10, x137 => if x137 = true then (some false) else (shardlaw1_TextFits.l0 k x1 x2 x7 x8 x10 0)
def shardlaw1_TextFits.l0 : Nat → Int → Int → ByteArray → Int → ByteArray → Int → Option (Bool)
  | 0, _, _, _, _, _, _ => none
  | k + 1, x1, x2, x7, x8, x10, x13 => if x13 < (wrap64 ((x10.size : Int) - (x7.size : Int))) then (if 0 ≤ x13 then (if x13 < (x10.size : Int) then (if (bt x10 x13) = 32 then (if x2 = 1 then (shardlaw1_TextFits.l0 k x1 x2 x7 x8 x10 (wrap64 (x13 + 1))) else (if x2 = 2 then (if x13 < (wrap64 (Int.tdiv (wrap64 (x1 - x8)) 2)) then (shardlaw1_TextFits.l0 k x1 x2 x7 x8 x10 (wrap64 (x13 + 1))) else (if x13 ≤ (wrap64 (x13 + (x7.size : Int))) then (if (wrap64 (x13 + (x7.size : Int))) ≤ (x10.size : Int) then (some ((x10.extract (x13 : Int).toNat ((wrap64 (x13 + (x7.size : Int))) : Int).toNat).toList == x7.toList)) else (none)) else (none))) else (if x13 ≤ (wrap64 (x13 + (x7.size : Int))) then (if (wrap64 (x13 + (x7.size : Int))) ≤ (x10.size : Int) then (some ((x10.extract (x13 : Int).toNat ((wrap64 (x13 + (x7.size : Int))) : Int).toNat).toList == x7.toList)) else (none)) else (none)))) else (if x13 ≤ (wrap64 (x13 + (x7.size : Int))) then (if (wrap64 (x13 + (x7.size : Int))) ≤ (x10.size : Int) then (some ((x10.extract (x13 : Int).toNat ((wrap64 (x13 + (x7.size : Int))) : Int).toNat).toList == x7.toList)) else (none)) else (none))) else (none)) else (none)) else (if 0 ≤ x13 then (if x13 ≤ (wrap64 (x13 + (x7.size : Int))) then (if (wrap64 (x13 + (x7.size : Int))) ≤ (x10.size : Int) then (some ((x10.extract (x13 : Int).toNat ((wrap64 (x13 + (x7.size : Int))) : Int).toNat).toList == x7.toList)) else (none)) else (none)) else (none))
def shardlaw1_TextFits.j3 : Nat → ByteArray → Int → Int → ByteArray → Int → List (S28) → Bool → Option (Bool)
  | 0, _, _, _, _, _, _, _ => none
  | k + 1, x0, x1, x2, x7, x8, x9, x74 => if x74 = true then (some false) else (if 0 < (x9.length : Int) then (if 0 ≤ (x7.size : Int) then (if (x7.size : Int) ≤ (wrap64 ((x7.size : Int) + ((rd_T28 x9 0).f2))) then (if (wrap64 ((x7.size : Int) + ((rd_T28 x9 0).f2))) ≤ (x0.size : Int) then ((text_Width.f k (x0.extract ((x7.size : Int) : Int).toNat ((wrap64 ((x7.size : Int) + ((rd_T28 x9 0).f2))) : Int).toNat)).bind fun t478 => (if (wrap64 (x8 + t478)) ≤ x1 then (some false) else (shardlaw1_TextFits.j4 k x1 x2 x7 x8))) else (none)) else (none)) else (none)) else (none))
end
def shardlaw1_TextFits.f (k : Nat) (a0 : ByteArray) (a1 : Int) (a2 : Int) : Option (Bool) := (text_Clip.f k a0 a1).bind fun t470 => ((text_Width.f k t470).bind fun t471 => (if (t470.size : Int) > (a0.size : Int) then (shardlaw1_TextFits.j0 k a0 a1 a2 t470 t471 true) else (if 0 ≤ (t470.size : Int) then (if (t470.size : Int) ≤ (a0.size : Int) then (shardlaw1_TextFits.j0 k a0 a1 a2 t470 t471 ((a0.extract 0 ((t470.size : Int) : Int).toNat).toList != t470.toList)) else (none)) else (none))))
theorem shardlaw1_TextFits.mono_l : ∀ k, (∀ y0 y1 y2 y3 y4 y5, LeO (shardlaw1_TextFits.j0 k y0 y1 y2 y3 y4 y5) (shardlaw1_TextFits.j0 (k + 1) y0 y1 y2 y3 y4 y5)) ∧ (∀ y0 y1 y2 y3 y4 y5, LeO (shardlaw1_TextFits.j1 k y0 y1 y2 y3 y4 y5) (shardlaw1_TextFits.j1 (k + 1) y0 y1 y2 y3 y4 y5)) ∧ (∀ y0 y1 y2 y3 y4 y5, LeO (shardlaw1_TextFits.j2 k y0 y1 y2 y3 y4 y5) (shardlaw1_TextFits.j2 (k + 1) y0 y1 y2 y3 y4 y5)) ∧ (∀ y0 y1 y2 y3, LeO (shardlaw1_TextFits.j4 k y0 y1 y2 y3) (shardlaw1_TextFits.j4 (k + 1) y0 y1 y2 y3)) ∧ (∀ y0 y1 y2 y3 y4 y5 y6, LeO (shardlaw1_TextFits.j5 k y0 y1 y2 y3 y4 y5 y6) (shardlaw1_TextFits.j5 (k + 1) y0 y1 y2 y3 y4 y5 y6)) ∧ (∀ y0 y1 y2 y3 y4 y5, LeO (shardlaw1_TextFits.j6 k y0 y1 y2 y3 y4 y5) (shardlaw1_TextFits.j6 (k + 1) y0 y1 y2 y3 y4 y5)) ∧ (∀ y0 y1 y2 y3 y4 y5, LeO (shardlaw1_TextFits.l0 k y0 y1 y2 y3 y4 y5) (shardlaw1_TextFits.l0 (k + 1) y0 y1 y2 y3 y4 y5)) ∧ (∀ y0 y1 y2 y3 y4 y5 y6, LeO (shardlaw1_TextFits.j3 k y0 y1 y2 y3 y4 y5 y6) (shardlaw1_TextFits.j3 (k + 1) y0 y1 y2 y3 y4 y5 y6))
  | 0 => ⟨fun _ _ _ _ _ _ r h => by simp [shardlaw1_TextFits.j0] at h, fun _ _ _ _ _ _ r h => by simp [shardlaw1_TextFits.j1] at h, fun _ _ _ _ _ _ r h => by simp [shardlaw1_TextFits.j2] at h, fun _ _ _ _ r h => by simp [shardlaw1_TextFits.j4] at h, fun _ _ _ _ _ _ _ r h => by simp [shardlaw1_TextFits.j5] at h, fun _ _ _ _ _ _ r h => by simp [shardlaw1_TextFits.j6] at h, fun _ _ _ _ _ _ r h => by simp [shardlaw1_TextFits.l0] at h, fun _ _ _ _ _ _ _ r h => by simp [shardlaw1_TextFits.j3] at h⟩
  | k + 1 => by
    obtain ⟨ih0, ih1, ih2, ih3, ih4, ih5, ih6, ih7⟩ := shardlaw1_TextFits.mono_l k
    refine ⟨?_, ?_, ?_, ?_, ?_, ?_, ?_, ?_⟩
    · intro y0 y1 y2 y3 y4 y5
      unfold shardlaw1_TextFits.j0
      repeat' first
      | (with_reducible exact ih0 _ _ _ _ _ _)
      | (with_reducible exact ih1 _ _ _ _ _ _)
      | (with_reducible exact ih2 _ _ _ _ _ _)
      | (with_reducible exact ih3 _ _ _ _)
      | (with_reducible exact ih4 _ _ _ _ _ _ _)
      | (with_reducible exact ih5 _ _ _ _ _ _)
      | (with_reducible exact ih6 _ _ _ _ _ _)
      | (with_reducible exact ih7 _ _ _ _ _ _ _)
      | (with_reducible exact text_Clip.mono _ _ _)
      | (with_reducible exact text_Pad.mono _ _ _ _)
      | (with_reducible exact text_Width.mono _ _)
      | (with_reducible exact LeO.refl _)
      | (with_reducible exact LeO.none _)
      | (with_reducible refine LeO.ite ?_ ?_)
      | (with_reducible refine LeO.bind ?_ (fun _ => ?_))
      | exact ih0 _ _ _ _ _ _
      | exact ih1 _ _ _ _ _ _
      | exact ih2 _ _ _ _ _ _
      | exact ih3 _ _ _ _
      | exact ih4 _ _ _ _ _ _ _
      | exact ih5 _ _ _ _ _ _
      | exact ih6 _ _ _ _ _ _
      | exact ih7 _ _ _ _ _ _ _
      | exact text_Clip.mono _ _ _
      | exact text_Pad.mono _ _ _ _
      | exact text_Width.mono _ _
      | exact LeO.none _
      | refine LeO.ite ?_ ?_
      | refine LeO.bind ?_ (fun _ => ?_)
    · intro y0 y1 y2 y3 y4 y5
      unfold shardlaw1_TextFits.j1
      repeat' first
      | (with_reducible exact ih0 _ _ _ _ _ _)
      | (with_reducible exact ih1 _ _ _ _ _ _)
      | (with_reducible exact ih2 _ _ _ _ _ _)
      | (with_reducible exact ih3 _ _ _ _)
      | (with_reducible exact ih4 _ _ _ _ _ _ _)
      | (with_reducible exact ih5 _ _ _ _ _ _)
      | (with_reducible exact ih6 _ _ _ _ _ _)
      | (with_reducible exact ih7 _ _ _ _ _ _ _)
      | (with_reducible exact text_Clip.mono _ _ _)
      | (with_reducible exact text_Pad.mono _ _ _ _)
      | (with_reducible exact text_Width.mono _ _)
      | (with_reducible exact LeO.refl _)
      | (with_reducible exact LeO.none _)
      | (with_reducible refine LeO.ite ?_ ?_)
      | (with_reducible refine LeO.bind ?_ (fun _ => ?_))
      | exact ih0 _ _ _ _ _ _
      | exact ih1 _ _ _ _ _ _
      | exact ih2 _ _ _ _ _ _
      | exact ih3 _ _ _ _
      | exact ih4 _ _ _ _ _ _ _
      | exact ih5 _ _ _ _ _ _
      | exact ih6 _ _ _ _ _ _
      | exact ih7 _ _ _ _ _ _ _
      | exact text_Clip.mono _ _ _
      | exact text_Pad.mono _ _ _ _
      | exact text_Width.mono _ _
      | exact LeO.none _
      | refine LeO.ite ?_ ?_
      | refine LeO.bind ?_ (fun _ => ?_)
    · intro y0 y1 y2 y3 y4 y5
      unfold shardlaw1_TextFits.j2
      repeat' first
      | (with_reducible exact ih0 _ _ _ _ _ _)
      | (with_reducible exact ih1 _ _ _ _ _ _)
      | (with_reducible exact ih2 _ _ _ _ _ _)
      | (with_reducible exact ih3 _ _ _ _)
      | (with_reducible exact ih4 _ _ _ _ _ _ _)
      | (with_reducible exact ih5 _ _ _ _ _ _)
      | (with_reducible exact ih6 _ _ _ _ _ _)
      | (with_reducible exact ih7 _ _ _ _ _ _ _)
      | (with_reducible exact text_Clip.mono _ _ _)
      | (with_reducible exact text_Pad.mono _ _ _ _)
      | (with_reducible exact text_Width.mono _ _)
      | (with_reducible exact LeO.refl _)
      | (with_reducible exact LeO.none _)
      | (with_reducible refine LeO.ite ?_ ?_)
      | (with_reducible refine LeO.bind ?_ (fun _ => ?_))
      | exact ih0 _ _ _ _ _ _
      | exact ih1 _ _ _ _ _ _
      | exact ih2 _ _ _ _ _ _
      | exact ih3 _ _ _ _
      | exact ih4 _ _ _ _ _ _ _
      | exact ih5 _ _ _ _ _ _
      | exact ih6 _ _ _ _ _ _
      | exact ih7 _ _ _ _ _ _ _
      | exact text_Clip.mono _ _ _
      | exact text_Pad.mono _ _ _ _
      | exact text_Width.mono _ _
      | exact LeO.none _
      | refine LeO.ite ?_ ?_
      | refine LeO.bind ?_ (fun _ => ?_)
    · intro y0 y1 y2 y3
      unfold shardlaw1_TextFits.j4
      repeat' first
      | (with_reducible exact ih0 _ _ _ _ _ _)
      | (with_reducible exact ih1 _ _ _ _ _ _)
      | (with_reducible exact ih2 _ _ _ _ _ _)
      | (with_reducible exact ih3 _ _ _ _)
      | (with_reducible exact ih4 _ _ _ _ _ _ _)
      | (with_reducible exact ih5 _ _ _ _ _ _)
      | (with_reducible exact ih6 _ _ _ _ _ _)
      | (with_reducible exact ih7 _ _ _ _ _ _ _)
      | (with_reducible exact text_Clip.mono _ _ _)
      | (with_reducible exact text_Pad.mono _ _ _ _)
      | (with_reducible exact text_Width.mono _ _)
      | (with_reducible exact LeO.refl _)
      | (with_reducible exact LeO.none _)
      | (with_reducible refine LeO.ite ?_ ?_)
      | (with_reducible refine LeO.bind ?_ (fun _ => ?_))
      | exact ih0 _ _ _ _ _ _
      | exact ih1 _ _ _ _ _ _
      | exact ih2 _ _ _ _ _ _
      | exact ih3 _ _ _ _
      | exact ih4 _ _ _ _ _ _ _
      | exact ih5 _ _ _ _ _ _
      | exact ih6 _ _ _ _ _ _
      | exact ih7 _ _ _ _ _ _ _
      | exact text_Clip.mono _ _ _
      | exact text_Pad.mono _ _ _ _
      | exact text_Width.mono _ _
      | exact LeO.none _
      | refine LeO.ite ?_ ?_
      | refine LeO.bind ?_ (fun _ => ?_)
    · intro y0 y1 y2 y3 y4 y5 y6
      unfold shardlaw1_TextFits.j5
      repeat' first
      | (with_reducible exact ih0 _ _ _ _ _ _)
      | (with_reducible exact ih1 _ _ _ _ _ _)
      | (with_reducible exact ih2 _ _ _ _ _ _)
      | (with_reducible exact ih3 _ _ _ _)
      | (with_reducible exact ih4 _ _ _ _ _ _ _)
      | (with_reducible exact ih5 _ _ _ _ _ _)
      | (with_reducible exact ih6 _ _ _ _ _ _)
      | (with_reducible exact ih7 _ _ _ _ _ _ _)
      | (with_reducible exact text_Clip.mono _ _ _)
      | (with_reducible exact text_Pad.mono _ _ _ _)
      | (with_reducible exact text_Width.mono _ _)
      | (with_reducible exact LeO.refl _)
      | (with_reducible exact LeO.none _)
      | (with_reducible refine LeO.ite ?_ ?_)
      | (with_reducible refine LeO.bind ?_ (fun _ => ?_))
      | exact ih0 _ _ _ _ _ _
      | exact ih1 _ _ _ _ _ _
      | exact ih2 _ _ _ _ _ _
      | exact ih3 _ _ _ _
      | exact ih4 _ _ _ _ _ _ _
      | exact ih5 _ _ _ _ _ _
      | exact ih6 _ _ _ _ _ _
      | exact ih7 _ _ _ _ _ _ _
      | exact text_Clip.mono _ _ _
      | exact text_Pad.mono _ _ _ _
      | exact text_Width.mono _ _
      | exact LeO.none _
      | refine LeO.ite ?_ ?_
      | refine LeO.bind ?_ (fun _ => ?_)
    · intro y0 y1 y2 y3 y4 y5
      unfold shardlaw1_TextFits.j6
      repeat' first
      | (with_reducible exact ih0 _ _ _ _ _ _)
      | (with_reducible exact ih1 _ _ _ _ _ _)
      | (with_reducible exact ih2 _ _ _ _ _ _)
      | (with_reducible exact ih3 _ _ _ _)
      | (with_reducible exact ih4 _ _ _ _ _ _ _)
      | (with_reducible exact ih5 _ _ _ _ _ _)
      | (with_reducible exact ih6 _ _ _ _ _ _)
      | (with_reducible exact ih7 _ _ _ _ _ _ _)
      | (with_reducible exact text_Clip.mono _ _ _)
      | (with_reducible exact text_Pad.mono _ _ _ _)
      | (with_reducible exact text_Width.mono _ _)
      | (with_reducible exact LeO.refl _)
      | (with_reducible exact LeO.none _)
      | (with_reducible refine LeO.ite ?_ ?_)
      | (with_reducible refine LeO.bind ?_ (fun _ => ?_))
      | exact ih0 _ _ _ _ _ _
      | exact ih1 _ _ _ _ _ _
      | exact ih2 _ _ _ _ _ _
      | exact ih3 _ _ _ _
      | exact ih4 _ _ _ _ _ _ _
      | exact ih5 _ _ _ _ _ _
      | exact ih6 _ _ _ _ _ _
      | exact ih7 _ _ _ _ _ _ _
      | exact text_Clip.mono _ _ _
      | exact text_Pad.mono _ _ _ _
      | exact text_Width.mono _ _
      | exact LeO.none _
      | refine LeO.ite ?_ ?_
      | refine LeO.bind ?_ (fun _ => ?_)
    · intro y0 y1 y2 y3 y4 y5
      unfold shardlaw1_TextFits.l0
      repeat' first
      | (with_reducible exact ih0 _ _ _ _ _ _)
      | (with_reducible exact ih1 _ _ _ _ _ _)
      | (with_reducible exact ih2 _ _ _ _ _ _)
      | (with_reducible exact ih3 _ _ _ _)
      | (with_reducible exact ih4 _ _ _ _ _ _ _)
      | (with_reducible exact ih5 _ _ _ _ _ _)
      | (with_reducible exact ih6 _ _ _ _ _ _)
      | (with_reducible exact ih7 _ _ _ _ _ _ _)
      | (with_reducible exact text_Clip.mono _ _ _)
      | (with_reducible exact text_Pad.mono _ _ _ _)
      | (with_reducible exact text_Width.mono _ _)
      | (with_reducible exact LeO.refl _)
      | (with_reducible exact LeO.none _)
      | (with_reducible refine LeO.ite ?_ ?_)
      | (with_reducible refine LeO.bind ?_ (fun _ => ?_))
      | exact ih0 _ _ _ _ _ _
      | exact ih1 _ _ _ _ _ _
      | exact ih2 _ _ _ _ _ _
      | exact ih3 _ _ _ _
      | exact ih4 _ _ _ _ _ _ _
      | exact ih5 _ _ _ _ _ _
      | exact ih6 _ _ _ _ _ _
      | exact ih7 _ _ _ _ _ _ _
      | exact text_Clip.mono _ _ _
      | exact text_Pad.mono _ _ _ _
      | exact text_Width.mono _ _
      | exact LeO.none _
      | refine LeO.ite ?_ ?_
      | refine LeO.bind ?_ (fun _ => ?_)
    · intro y0 y1 y2 y3 y4 y5 y6
      unfold shardlaw1_TextFits.j3
      repeat' first
      | (with_reducible exact ih0 _ _ _ _ _ _)
      | (with_reducible exact ih1 _ _ _ _ _ _)
      | (with_reducible exact ih2 _ _ _ _ _ _)
      | (with_reducible exact ih3 _ _ _ _)
      | (with_reducible exact ih4 _ _ _ _ _ _ _)
      | (with_reducible exact ih5 _ _ _ _ _ _)
      | (with_reducible exact ih6 _ _ _ _ _ _)
      | (with_reducible exact ih7 _ _ _ _ _ _ _)
      | (with_reducible exact text_Clip.mono _ _ _)
      | (with_reducible exact text_Pad.mono _ _ _ _)
      | (with_reducible exact text_Width.mono _ _)
      | (with_reducible exact LeO.refl _)
      | (with_reducible exact LeO.none _)
      | (with_reducible refine LeO.ite ?_ ?_)
      | (with_reducible refine LeO.bind ?_ (fun _ => ?_))
      | exact ih0 _ _ _ _ _ _
      | exact ih1 _ _ _ _ _ _
      | exact ih2 _ _ _ _ _ _
      | exact ih3 _ _ _ _
      | exact ih4 _ _ _ _ _ _ _
      | exact ih5 _ _ _ _ _ _
      | exact ih6 _ _ _ _ _ _
      | exact ih7 _ _ _ _ _ _ _
      | exact text_Clip.mono _ _ _
      | exact text_Pad.mono _ _ _ _
      | exact text_Width.mono _ _
      | exact LeO.none _
      | refine LeO.ite ?_ ?_
      | refine LeO.bind ?_ (fun _ => ?_)
theorem shardlaw1_TextFits.mono : ∀ a0 a1 a2 k, LeO (shardlaw1_TextFits.f k a0 a1 a2) (shardlaw1_TextFits.f (k + 1) a0 a1 a2) := by
  intro a0 a1 a2 k
  obtain ⟨ih0, ih1, ih2, ih3, ih4, ih5, ih6, ih7⟩ := shardlaw1_TextFits.mono_l k
  unfold shardlaw1_TextFits.f
  repeat' first
      | (with_reducible exact ih0 _ _ _ _ _ _)
      | (with_reducible exact ih1 _ _ _ _ _ _)
      | (with_reducible exact ih2 _ _ _ _ _ _)
      | (with_reducible exact ih3 _ _ _ _)
      | (with_reducible exact ih4 _ _ _ _ _ _ _)
      | (with_reducible exact ih5 _ _ _ _ _ _)
      | (with_reducible exact ih6 _ _ _ _ _ _)
      | (with_reducible exact ih7 _ _ _ _ _ _ _)
      | (with_reducible exact text_Clip.mono _ _ _)
      | (with_reducible exact text_Pad.mono _ _ _ _)
      | (with_reducible exact text_Width.mono _ _)
      | (with_reducible exact LeO.refl _)
      | (with_reducible exact LeO.none _)
      | (with_reducible refine LeO.ite ?_ ?_)
      | (with_reducible refine LeO.bind ?_ (fun _ => ?_))
      | exact ih0 _ _ _ _ _ _
      | exact ih1 _ _ _ _ _ _
      | exact ih2 _ _ _ _ _ _
      | exact ih3 _ _ _ _
      | exact ih4 _ _ _ _ _ _ _
      | exact ih5 _ _ _ _ _ _
      | exact ih6 _ _ _ _ _ _
      | exact ih7 _ _ _ _ _ _ _
      | exact text_Clip.mono _ _ _
      | exact text_Pad.mono _ _ _ _
      | exact text_Width.mono _ _
      | exact LeO.none _
      | refine LeO.ite ?_ ?_
      | refine LeO.bind ?_ (fun _ => ?_)
set_option maxHeartbeats 8000000 in
set_option maxRecDepth 100000 in
theorem shardlaw1_TextFits.calls (k : Nat) (a0 : ByteArray) (a1 : Int) (a2 : Int) (r : Bool) (w : World) (h : shardlaw1_TextFits.f k a0 a1 a2 = some r) :
    Calls Try.prog 11 #[.string a0, .int .i64 a1, .int .i64 a2] w fun e w' => e = .returned (.bool r) ∧ Below w.heap.size w w' := by
  have HB := Aside0.mk (Below.refl w.heap.size w)
  have H : ((text_Clip.f k a0 a1).bind fun t470 => ((text_Width.f k t470).bind fun t471 => (if (t470.size : Int) > (a0.size : Int) then (shardlaw1_TextFits.j0 k a0 a1 a2 t470 t471 true) else (if 0 ≤ (t470.size : Int) then (if (t470.size : Int) ≤ (a0.size : Int) then (shardlaw1_TextFits.j0 k a0 a1 a2 t470 t471 ((a0.extract 0 ((t470.size : Int) : Int).toNat).toList != t470.toList)) else (none)) else (none))))) = some r := h
  clear h
  replace H := Option.bind_eq_some_iff.mp H
  obtain ⟨t470, A40, H⟩ := H
  replace H : ((text_Width.f k t470).bind fun t471 => (if (t470.size : Int) > (a0.size : Int) then (shardlaw1_TextFits.j0 k a0 a1 a2 t470 t471 true) else (if 0 ≤ (t470.size : Int) then (if (t470.size : Int) ≤ (a0.size : Int) then (shardlaw1_TextFits.j0 k a0 a1 a2 t470 t471 ((a0.extract 0 ((t470.size : Int) : Int).toNat).toList != t470.toList)) else (none)) else (none)))) = some r := H
  have A4 := Aside0.mk A40
  clear A40
  replace H := Option.bind_eq_some_iff.mp H
  obtain ⟨t471, A50, H⟩ := H
  replace H : (if (t470.size : Int) > (a0.size : Int) then (shardlaw1_TextFits.j0 k a0 a1 a2 t470 t471 true) else (if 0 ≤ (t470.size : Int) then (if (t470.size : Int) ≤ (a0.size : Int) then (shardlaw1_TextFits.j0 k a0 a1 a2 t470 t471 ((a0.extract 0 ((t470.size : Int) : Int).toNat).toList != t470.toList)) else (none)) else (none))) = some r := H
  have A5 := Aside0.mk A50
  clear A50
  have HC6 := Aside0.mk H
  clear H
  go_enter Try.func11, Try.ntmps11
  go_upto_region 3 with (first | ((with_reducible refine gate_callee (f := 29) rfl ?_); refine goesL_ (some 16) rfl rfl Try.func29 (by kernel_rfl) rfl #[.string a0, .int .i64 a1] rfl (by (try simp only [List.map_toArray, List.map_cons, List.map_nil]); first | done | rfl | (simp only [List.length_drop, List.length_take]; rfl)) ?_; (with_reducible refine (text_Clip.calls k a0 a1 t470 _ A4.out).mono ?_); rintro e w7 ⟨rfl, hb⟩; refine ⟨_, rfl, ?_⟩; have n0_ := Aside0.mk (below_step (by repeat (first | (with_reducible first | exact HB.out | apply below_alloc | apply pw_below_drewN | apply below_drew1) | exact HB.out)) hb); clear HB; have HB := n0_; clear n0_; (try clear hb); (try clear hb2); (try clear hk); (try clear hi)) | ((with_reducible refine gate_callee (f := 28) rfl ?_); refine goesL_ (some 18) rfl rfl Try.func28 (by kernel_rfl) rfl #[.string t470] rfl (by (try simp only [List.map_toArray, List.map_cons, List.map_nil]); first | done | rfl | (simp only [List.length_drop, List.length_take]; rfl)) ?_; (with_reducible refine (text_Width.calls k t470 t471 _ A5.out).mono ?_); rintro e w8 ⟨rfl, hb⟩; refine ⟨_, rfl, ?_⟩; have n0_ := Aside0.mk (below_step (by repeat (first | (with_reducible first | exact HB.out | apply below_alloc | apply pw_below_drewN | apply below_drew1) | exact HB.out)) hb); clear HB; have HB := n0_; clear n0_; (try clear hb); (try clear hb2); (try clear hk); (try clear hi)))
  (try simp only [Act.put, List.setIfInBounds_toArray, List.set_cons_zero, List.set_cons_succ])
  go_cut [31] (fun v31 wc => ∃ (kq : Nat) (x31_5 : Bool), v31 = .bool x31_5 ∧ Aside0 (shardlaw1_TextFits.j0 kq a0 a1 a2 t470 t471 x31_5 = some r) ∧ Aside0 (kq ≤ k) ∧ Aside0 (Below w.heap.size w wc))
  case first =>
    have H := HC6.out
    clear HC6
    by_cases c9 : (t470.size : Int) > (a0.size : Int)
    · rw [if_pos c9] at H
      have c9b0 : decide ((a0.size : Int) < (t470.size : Int)) = true := decide_eq_true c9
      have c9b1 : decide (a0.size < t470.size) = true := decide_eq_true (Int.ofNat_lt.mp c9)
      clear c9
      (first | rw [c9b0] | (simp only [i64_w, i32_w]; rw [c9b0]) | skip)
      have H' := Aside0.mk H
      clear H
      go_wp2
      go_meet
      case rel => exact ⟨_, (true), (by first | rfl | (simp; done) | (simp [*]; done)), H', ⟨by first | omega | exact Nat.le_refl _⟩, ⟨by repeat (first | (with_reducible first | exact HB.out | apply below_alloc | apply pw_below_drewN | apply below_drew1) | exact HB.out)⟩⟩
    · rw [if_neg c9] at H
      have c9b0 : decide ((a0.size : Int) < (t470.size : Int)) = false := decide_eq_false c9
      have c9b1 : decide (a0.size < t470.size) = false := decide_eq_false (fun h => c9 (Int.ofNat_lt.mpr h))
      clear c9
      (first | rw [c9b0] | (simp only [i64_w, i32_w]; rw [c9b0]) | skip)
      by_cases c10 : 0 ≤ (t470.size : Int)
      · rw [if_pos c10] at H
        have c10b0 := eq_true c10
        have c10b1 : decide (0 ≤ (t470.size : Int)) = true := decide_eq_true c10
        clear c10
        by_cases c11 : (t470.size : Int) ≤ (a0.size : Int)
        · rw [if_pos c11] at H
          have c11b0 := eq_true c11
          have c11b1 : decide ((t470.size : Int) ≤ (a0.size : Int)) = true := decide_eq_true c11
          clear c11
          have H' := Aside0.mk H
          clear H
          go_wp2
          go_meet
          case rel => exact ⟨_, (((a0.extract 0 ((t470.size : Int) : Int).toNat).toList != t470.toList)), (by first | rfl | (simp; done) | (simp [*]; done)), H', ⟨by first | omega | exact Nat.le_refl _⟩, ⟨by repeat (first | (with_reducible first | exact HB.out | apply below_alloc | apply pw_below_drewN | apply below_drew1) | exact HB.out)⟩⟩
        · rw [if_neg c11] at H
          exact absurd H (by simp)
      · rw [if_neg c10] at H
        exact absurd H (by simp)
  case rest => as_aux_lemma =>
    clear HC6
    try clear c1
    try clear c2
    try clear p2
    try clear c9
    try clear c9b0
    try clear c9b1
    try clear c10
    try clear c10b0
    try clear c10b1
    try clear c11
    try clear c11b0
    try clear c11b1
    obtain ⟨kq, x31_5, rfl, HA, HJ5, HB⟩ := hcut
    cases kq with
    | zero => exact absurd HA.out (by simp [shardlaw1_TextFits.j0])
    | succ kj5 =>
      have H := HA.out
      clear HA
      simp only [shardlaw1_TextFits.j0] at H
      by_cases c12 : x31_5 = true
      · subst c12
        have H1 : (some false) = some r := by rw [if_pos rfl] at H; exact H
        clear H
        have H := H1
        clear H1
        obtain rfl := Option.some.inj H
        go_wp2
        go_ret
        exact ⟨by first | rfl | (simp [errW_none, errW_some] <;> rfl) | (simp [*, errW_none, errW_some] <;> rfl), by repeat (first | (with_reducible first | exact HB.out | apply below_alloc | apply pw_below_drewN | apply below_drew1) | exact HB.out)⟩
      · replace c12 := Bool.eq_false_iff.mpr c12
        subst c12
        have H1 : (if a1 ≥ 0 then (shardlaw1_TextFits.j1 kj5 a0 a1 a2 t470 t471 (decide (t471 > a1))) else (shardlaw1_TextFits.j1 kj5 a0 a1 a2 t470 t471 false)) = some r := by rw [if_neg (show ¬ (false = true) by decide)] at H; exact H
        clear H
        have H := H1
        clear H1
        have HC13 := Aside0.mk H
        clear H
        go_upto_region 5 with (fail)
        go_cut [38] (fun v38 wc => ∃ (kq : Nat) (x38_12 : Bool), v38 = .bool x38_12 ∧ Aside0 (shardlaw1_TextFits.j1 kq a0 a1 a2 t470 t471 x38_12 = some r) ∧ Aside0 (kq ≤ kj5) ∧ Aside0 (Below w.heap.size w wc))
        case first =>
          have H := HC13.out
          clear HC13
          by_cases c14 : a1 ≥ 0
          · rw [if_pos c14] at H
            have c14b0 : decide (0 ≤ a1) = true := decide_eq_true c14
            clear c14
            (first | rw [c14b0] | (simp only [i64_w, i32_w]; rw [c14b0]) | skip)
            have H' := Aside0.mk H
            clear H
            go_wp2
            go_meet
            case rel => exact ⟨_, (decide (t471 > a1)), (by first | rfl | (simp; done) | (simp [*]; done)), H', ⟨by have := HJ5.out; first | omega | exact Nat.le_refl _⟩, ⟨by repeat (first | (with_reducible first | exact HB.out | apply below_alloc | apply pw_below_drewN | apply below_drew1) | exact HB.out)⟩⟩
          · rw [if_neg c14] at H
            have c14b0 : decide (0 ≤ a1) = false := decide_eq_false c14
            clear c14
            (first | rw [c14b0] | (simp only [i64_w, i32_w]; rw [c14b0]) | skip)
            have H' := Aside0.mk H
            clear H
            go_wp2
            go_meet
            case rel => exact ⟨_, (false), (by first | rfl | (simp; done) | (simp [*]; done)), H', ⟨by have := HJ5.out; first | omega | exact Nat.le_refl _⟩, ⟨by repeat (first | (with_reducible first | exact HB.out | apply below_alloc | apply pw_below_drewN | apply below_drew1) | exact HB.out)⟩⟩
        case rest => as_aux_lemma =>
          clear HC13
          try clear c1
          try clear c2
          try clear p2
          try clear c9
          try clear c9b0
          try clear c9b1
          try clear c10
          try clear c10b0
          try clear c10b1
          try clear c11
          try clear c11b0
          try clear c11b1
          try clear c12
          try clear c14
          try clear c14b0
          try clear p2
          obtain ⟨kq, x38_12, rfl, HA, HJ12, HB⟩ := hcut
          cases kq with
          | zero => exact absurd HA.out (by simp [shardlaw1_TextFits.j1])
          | succ kj12 =>
            have H := HA.out
            clear HA
            simp only [shardlaw1_TextFits.j1] at H
            by_cases c15 : x38_12 = true
            · subst c15
              have H1 : (some false) = some r := by rw [if_pos rfl] at H; exact H
              clear H
              have H := H1
              clear H1
              obtain rfl := Option.some.inj H
              go_wp2
              go_ret
              exact ⟨by first | rfl | (simp [errW_none, errW_some] <;> rfl) | (simp [*, errW_none, errW_some] <;> rfl), by repeat (first | (with_reducible first | exact HB.out | apply below_alloc | apply pw_below_drewN | apply below_drew1) | exact HB.out)⟩
            · replace c15 := Bool.eq_false_iff.mpr c15
              subst c15
              have H1 : (if (t470.size : Int) < (a0.size : Int) then (shardlaw1_TextFits.j2 kj12 a0 a1 a2 t470 t471 (decide (a1 ≥ 0))) else (shardlaw1_TextFits.j2 kj12 a0 a1 a2 t470 t471 false)) = some r := by rw [if_neg (show ¬ (false = true) by decide)] at H; exact H
              clear H
              have H := H1
              clear H1
              have HC16 := Aside0.mk H
              clear H
              go_upto_region 7 with (fail)
              go_cut [47] (fun v47 wc => ∃ (kq : Nat) (x47_15 : Bool), v47 = .bool x47_15 ∧ Aside0 (shardlaw1_TextFits.j2 kq a0 a1 a2 t470 t471 x47_15 = some r) ∧ Aside0 (kq ≤ kj12) ∧ Aside0 (Below w.heap.size w wc))
              case first =>
                have H := HC16.out
                clear HC16
                by_cases c17 : (t470.size : Int) < (a0.size : Int)
                · rw [if_pos c17] at H
                  have c17b0 : decide ((t470.size : Int) < (a0.size : Int)) = true := decide_eq_true c17
                  have c17b1 : decide (t470.size < a0.size) = true := decide_eq_true (Int.ofNat_lt.mp c17)
                  clear c17
                  (first | rw [c17b0] | (simp only [i64_w, i32_w]; rw [c17b0]) | skip)
                  have H' := Aside0.mk H
                  clear H
                  go_wp2
                  go_meet
                  case rel => exact ⟨_, (decide (a1 ≥ 0)), (by first | rfl | (simp; done) | (simp [*]; done)), H', ⟨by have := HJ5.out; have := HJ12.out; first | omega | exact Nat.le_refl _⟩, ⟨by repeat (first | (with_reducible first | exact HB.out | apply below_alloc | apply pw_below_drewN | apply below_drew1) | exact HB.out)⟩⟩
                · rw [if_neg c17] at H
                  have c17b0 : decide ((t470.size : Int) < (a0.size : Int)) = false := decide_eq_false c17
                  have c17b1 : decide (t470.size < a0.size) = false := decide_eq_false (fun h => c17 (Int.ofNat_lt.mpr h))
                  clear c17
                  (first | rw [c17b0] | (simp only [i64_w, i32_w]; rw [c17b0]) | skip)
                  have H' := Aside0.mk H
                  clear H
                  go_wp2
                  go_meet
                  case rel => exact ⟨_, (false), (by first | rfl | (simp; done) | (simp [*]; done)), H', ⟨by have := HJ5.out; have := HJ12.out; first | omega | exact Nat.le_refl _⟩, ⟨by repeat (first | (with_reducible first | exact HB.out | apply below_alloc | apply pw_below_drewN | apply below_drew1) | exact HB.out)⟩⟩
              case rest => as_aux_lemma =>
                clear HC16
                try clear c1
                try clear c2
                try clear p2
                try clear c9
                try clear c9b0
                try clear c9b1
                try clear c10
                try clear c10b0
                try clear c10b1
                try clear c11
                try clear c11b0
                try clear c11b1
                try clear c12
                try clear c14
                try clear c14b0
                try clear c15
                try clear c17
                try clear c17b0
                try clear c17b1
                try clear p2
                obtain ⟨kq, x47_15, rfl, HA, HJ15, HB⟩ := hcut
                cases kq with
                | zero => exact absurd HA.out (by simp [shardlaw1_TextFits.j2])
                | succ kj15 =>
                  have H := HA.out
                  clear HA
                  simp only [shardlaw1_TextFits.j2] at H
                  have HC18 := Aside0.mk H
                  clear H
                  go_upto_if 47 with (fail)
                  go_cut [] (fun wc => ∃ (kq : Nat), Aside0 (shardlaw1_TextFits.j4 kq a1 a2 t470 t471 = some r) ∧ Aside0 (kq ≤ kj15) ∧ Aside0 (Below w.heap.size w wc))
                  case first =>
                    have H := HC18.out
                    clear HC18
                    by_cases c19 : x47_15 = true
                    · subst c19
                      have H1 : (if 0 ≤ (t470.size : Int) then (if (t470.size : Int) ≤ (a0.size : Int) then ((text_Pieces.f (a0.extract ((t470.size : Int) : Int).toNat a0.size)).bind fun t472 => (if (t472.length : Int) = 0 then (shardlaw1_TextFits.j3 kj15 a0 a1 a2 t470 t471 t472 true) else (if 0 < (t472.length : Int) then (if ((rd_T28 t472 0).f2) < 1 then (shardlaw1_TextFits.j3 kj15 a0 a1 a2 t470 t471 t472 true) else (shardlaw1_TextFits.j3 kj15 a0 a1 a2 t470 t471 t472 (decide (((rd_T28 t472 0).f2) > (wrap64 ((a0.size : Int) - (t470.size : Int))))))) else (none)))) else (none)) else (none)) = some r := by rw [if_pos rfl] at H; exact H
                      clear H
                      have H := H1
                      clear H1
                      by_cases c20 : 0 ≤ (t470.size : Int)
                      · rw [if_pos c20] at H
                        have c20b0 := eq_true c20
                        have c20b1 : decide (0 ≤ (t470.size : Int)) = true := decide_eq_true c20
                        clear c20
                        by_cases c21 : (t470.size : Int) ≤ (a0.size : Int)
                        · rw [if_pos c21] at H
                          have c21b0 := eq_true c21
                          have c21b1 : decide ((t470.size : Int) ≤ (a0.size : Int)) = true := decide_eq_true c21
                          clear c21
                          replace H := Option.bind_eq_some_iff.mp H
                          obtain ⟨t472, A220, H⟩ := H
                          replace H : (if (t472.length : Int) = 0 then (shardlaw1_TextFits.j3 kj15 a0 a1 a2 t470 t471 t472 true) else (if 0 < (t472.length : Int) then (if ((rd_T28 t472 0).f2) < 1 then (shardlaw1_TextFits.j3 kj15 a0 a1 a2 t470 t471 t472 true) else (shardlaw1_TextFits.j3 kj15 a0 a1 a2 t470 t471 t472 (decide (((rd_T28 t472 0).f2) > (wrap64 ((a0.size : Int) - (t470.size : Int))))))) else (none))) = some r := H
                          have A22 := Aside0.mk A220
                          clear A220
                          have HC23 := Aside0.mk H
                          clear H
                          go_upto_region 9 with (first | ((with_reducible refine gate_callee (f := 15) rfl ?_); refine goesL_ (some 52) rfl rfl Try.func15 (by kernel_rfl) rfl #[.string (a0.extract ((t470.size : Int) : Int).toNat a0.size)] rfl (by (try simp only [List.map_toArray, List.map_cons, List.map_nil]); first | done | rfl | (simp only [List.length_drop, List.length_take]; rfl)) ?_; (with_reducible refine (text_Pieces.calls (a0.extract ((t470.size : Int) : Int).toNat a0.size) t472 _ A22.out).mono ?_); rintro e w24 ⟨v473, rfl, ho0, hb⟩; refine ⟨_, rfl, ?_⟩; have n0_ := Aside0.mk (Kd.R_lower ho0 (below_size (by repeat (first | (with_reducible first | exact HB.out | apply below_alloc | apply pw_below_drewN | apply below_drew1) | exact HB.out)))); have n1_ := Aside0.mk (below_step (by repeat (first | (with_reducible first | exact HB.out | apply below_alloc | apply pw_below_drewN | apply below_drew1) | exact HB.out)) hb); clear HB; have HO474 := n0_; have HB := n1_; clear n0_ n1_; (try clear hb); (try clear hb2); (try clear hk); (try clear hi); (try clear ho0)))
                          (try simp only [Act.put, List.setIfInBounds_toArray, List.set_cons_zero, List.set_cons_succ])
                          go_cut [74] (fun v74 wc => ∃ (kq : Nat) (x74_22 : Bool), v74 = .bool x74_22 ∧ Aside0 (shardlaw1_TextFits.j3 kq a0 a1 a2 t470 t471 t472 x74_22 = some r) ∧ Aside0 (kq ≤ kj15) ∧ Aside0 (Kd.R k28 28 wc w.heap.size (fun _ => True) v473 t472) ∧ Aside0 (Below w.heap.size w wc))
                          case first =>
                            have H := HC23.out
                            clear HC23
                            by_cases c25 : (t472.length : Int) = 0
                            · rw [if_pos c25] at H
                              have c25b0 : ((t472.length : Int) == 0) = true := beq_iff_eq.mpr c25
                              have c25b1 : ((t472.length : Int) != 0) = false := bne_eq_false_iff_eq.mpr c25
                              clear c25
                              (first | rw [c25b0] | (simp only [i64_w, i32_w]; rw [c25b0]) | skip)
                              have H' := Aside0.mk H
                              clear H
                              obtain ⟨Ao26, co26, eo26⟩ := Kd.R_slice HO474.out
                              subst eo26
                              go_wp2
                              go_meet
                              case rel => exact ⟨_, (true), (by first | rfl | (simp; done) | (simp [*]; done)), H', ⟨by have := HJ5.out; have := HJ12.out; have := HJ15.out; first | omega | exact Nat.le_refl _⟩, ⟨by (with_reducible repeat (first | apply Kd.R_alloc | apply Kd.R_drewN | apply Kd.R_drew)); exact HO474.out⟩, ⟨by repeat (first | (with_reducible first | exact HB.out | apply below_alloc | apply pw_below_drewN | apply below_drew1) | exact HB.out)⟩⟩
                            · rw [if_neg c25] at H
                              have c25b0 : ((t472.length : Int) == 0) = false := beq_eq_false_iff_ne.mpr c25
                              have c25b1 : ((t472.length : Int) != 0) = true := bne_iff_ne.mpr c25
                              have c25b2 : ¬ (t472 = []) := fun h_ => c25 (by rw [h_]; rfl)
                              (first | rw [c25b0] | (simp only [i64_w, i32_w]; rw [c25b0]) | skip)
                              by_cases c27 : 0 < (t472.length : Int)
                              · rw [if_pos c27] at H
                                have c27b0 : decide (0 < (t472.length : Int)) = true := decide_eq_true c27
                                have c27b1 : decide (0 < t472.length) = true := decide_eq_true (by omega)
                                clear c27
                                by_cases c28 : ((rd_T28 t472 0).f2) < 1
                                · rw [if_pos c28] at H
                                  have c28b0 : decide (((rd_T28 t472 0).f2) < 1) = true := decide_eq_true c28
                                  clear c28
                                  have H' := Aside0.mk H
                                  clear H
                                  obtain ⟨Ao29, co29, eo29⟩ := Kd.R_slice HO474.out
                                  subst eo29
                                  have p475 : 0 ≤ (0 : Int) := (by omega)
                                  have q475 : 0 < (t472.length : Int) := of_decide_eq_true (by first | (with_reducible assumption) | assumption)
                                  obtain ⟨ad475, e475, hx475_0, hx475_1, hx475_2, hx475_3⟩ := at_T28 (Kd.R_reads' HO474.out).2.2 0 p475 q475
                                  cases e475
                                  have qi475 : (0 < t472.length) = True := eq_true (by omega)
                                  (try rw [show ((0 : Int)).toNat = 0 from rfl] at hx475_0)
                                  (try rw [show 0 * 4 = 0 from rfl] at hx475_0)
                                  (try rw [Addr.add_zero'] at hx475_0)
                                  (try rw [show ((0 : Int)).toNat = 0 from rfl] at hx475_1)
                                  (try rw [show 0 * 4 = 0 from rfl] at hx475_1)
                                  (try rw [Addr.add_zero'] at hx475_1)
                                  (try rw [show ((0 : Int)).toNat = 0 from rfl] at hx475_2)
                                  (try rw [show 0 * 4 = 0 from rfl] at hx475_2)
                                  (try rw [Addr.add_zero'] at hx475_2)
                                  (try rw [show ((0 : Int)).toNat = 0 from rfl] at hx475_3)
                                  (try rw [show 0 * 4 = 0 from rfl] at hx475_3)
                                  (try rw [Addr.add_zero'] at hx475_3)
                                  replace p475 := eq_true p475
                                  replace q475 := eq_true q475
                                  go_wp2
                                  go_meet
                                  case rel => exact ⟨_, (true), (by first | rfl | (simp; done) | (simp [*]; done)), H', ⟨by have := HJ5.out; have := HJ12.out; have := HJ15.out; first | omega | exact Nat.le_refl _⟩, ⟨by (with_reducible repeat (first | apply Kd.R_alloc | apply Kd.R_drewN | apply Kd.R_drew)); exact HO474.out⟩, ⟨by repeat (first | (with_reducible first | exact HB.out | apply below_alloc | apply pw_below_drewN | apply below_drew1) | exact HB.out)⟩⟩
                                · rw [if_neg c28] at H
                                  have c28b0 : decide (((rd_T28 t472 0).f2) < 1) = false := decide_eq_false c28
                                  clear c28
                                  have H' := Aside0.mk H
                                  clear H
                                  obtain ⟨Ao30, co30, eo30⟩ := Kd.R_slice HO474.out
                                  subst eo30
                                  have p475 : 0 ≤ (0 : Int) := (by omega)
                                  have q475 : 0 < (t472.length : Int) := of_decide_eq_true (by first | (with_reducible assumption) | assumption)
                                  obtain ⟨ad475, e475, hx475_0, hx475_1, hx475_2, hx475_3⟩ := at_T28 (Kd.R_reads' HO474.out).2.2 0 p475 q475
                                  cases e475
                                  have qi475 : (0 < t472.length) = True := eq_true (by omega)
                                  (try rw [show ((0 : Int)).toNat = 0 from rfl] at hx475_0)
                                  (try rw [show 0 * 4 = 0 from rfl] at hx475_0)
                                  (try rw [Addr.add_zero'] at hx475_0)
                                  (try rw [show ((0 : Int)).toNat = 0 from rfl] at hx475_1)
                                  (try rw [show 0 * 4 = 0 from rfl] at hx475_1)
                                  (try rw [Addr.add_zero'] at hx475_1)
                                  (try rw [show ((0 : Int)).toNat = 0 from rfl] at hx475_2)
                                  (try rw [show 0 * 4 = 0 from rfl] at hx475_2)
                                  (try rw [Addr.add_zero'] at hx475_2)
                                  (try rw [show ((0 : Int)).toNat = 0 from rfl] at hx475_3)
                                  (try rw [show 0 * 4 = 0 from rfl] at hx475_3)
                                  (try rw [Addr.add_zero'] at hx475_3)
                                  replace p475 := eq_true p475
                                  replace q475 := eq_true q475
                                  have p476 : 0 ≤ (0 : Int) := (by omega)
                                  have q476 : 0 < (t472.length : Int) := of_decide_eq_true (by first | (with_reducible assumption) | assumption)
                                  obtain ⟨ad476, e476, hx476_0, hx476_1, hx476_2, hx476_3⟩ := at_T28 (Kd.R_reads' HO474.out).2.2 0 p476 q476
                                  obtain rfl : ad475 = ad476 := (by injection e476)
                                  have qi476 : (0 < t472.length) = True := eq_true (by omega)
                                  (try rw [show ((0 : Int)).toNat = 0 from rfl] at hx476_0)
                                  (try rw [show 0 * 4 = 0 from rfl] at hx476_0)
                                  (try rw [Addr.add_zero'] at hx476_0)
                                  (try rw [show ((0 : Int)).toNat = 0 from rfl] at hx476_1)
                                  (try rw [show 0 * 4 = 0 from rfl] at hx476_1)
                                  (try rw [Addr.add_zero'] at hx476_1)
                                  (try rw [show ((0 : Int)).toNat = 0 from rfl] at hx476_2)
                                  (try rw [show 0 * 4 = 0 from rfl] at hx476_2)
                                  (try rw [Addr.add_zero'] at hx476_2)
                                  (try rw [show ((0 : Int)).toNat = 0 from rfl] at hx476_3)
                                  (try rw [show 0 * 4 = 0 from rfl] at hx476_3)
                                  (try rw [Addr.add_zero'] at hx476_3)
                                  replace p476 := eq_true p476
                                  replace q476 := eq_true q476
                                  go_wp2
                                  go_meet
                                  case rel => exact ⟨_, (decide (((rd_T28 t472 0).f2) > (wrap64 ((a0.size : Int) - (t470.size : Int))))), (by first | rfl | (simp; done) | (simp [*]; done)), H', ⟨by have := HJ5.out; have := HJ12.out; have := HJ15.out; first | omega | exact Nat.le_refl _⟩, ⟨by (with_reducible repeat (first | apply Kd.R_alloc | apply Kd.R_drewN | apply Kd.R_drew)); exact HO474.out⟩, ⟨by repeat (first | (with_reducible first | exact HB.out | apply below_alloc | apply pw_below_drewN | apply below_drew1) | exact HB.out)⟩⟩
                              · rw [if_neg c27] at H
                                exact absurd H (by simp)
                          case rest => as_aux_lemma =>
                            clear HC23
                            try clear c1
                            try clear c2
                            try clear p2
                            try clear p4
                            try clear q4
                            try clear hx4
                            try clear qi4
                            try clear p6
                            try clear c9
                            try clear c9b0
                            try clear c9b1
                            try clear c10
                            try clear c10b0
                            try clear c10b1
                            try clear c11
                            try clear c11b0
                            try clear c11b1
                            try clear c12
                            try clear c14
                            try clear c14b0
                            try clear c15
                            try clear c17
                            try clear c17b0
                            try clear c17b1
                            try clear c19
                            try clear c20
                            try clear c20b0
                            try clear c20b1
                            try clear c21
                            try clear c21b0
                            try clear c21b1
                            try clear c25
                            try clear c25b0
                            try clear c25b1
                            try clear c25b2
                            try clear c27
                            try clear c27b0
                            try clear c27b1
                            try clear c28
                            try clear c28b0
                            try clear c29
                            try clear hx475_0
                            try clear hx475_1
                            try clear hx475_2
                            try clear hx475_3
                            try clear hx476_0
                            try clear hx476_1
                            try clear hx476_2
                            try clear hx476_3
                            try clear p2
                            try clear p475
                            try clear p476
                            try clear q475
                            try clear q476
                            obtain ⟨kq, x74_22, rfl, HA, HJ22, HO_9, HB⟩ := hcut
                            cases kq with
                            | zero => exact absurd HA.out (by simp [shardlaw1_TextFits.j3])
                            | succ kj22 =>
                              have H := HA.out
                              clear HA
                              simp only [shardlaw1_TextFits.j3] at H
                              by_cases c31 : x74_22 = true
                              · subst c31
                                have H1 : (some false) = some r := by rw [if_pos rfl] at H; exact H
                                clear H
                                have H := H1
                                clear H1
                                obtain rfl := Option.some.inj H
                                go_wp2
                                go_ret
                                exact ⟨by first | rfl | (simp [errW_none, errW_some] <;> rfl) | (simp [*, errW_none, errW_some] <;> rfl), by repeat (first | (with_reducible first | exact HB.out | apply below_alloc | apply pw_below_drewN | apply below_drew1) | exact HB.out)⟩
                              · replace c31 := Bool.eq_false_iff.mpr c31
                                subst c31
                                have H1 : (if 0 < (t472.length : Int) then (if 0 ≤ (t470.size : Int) then (if (t470.size : Int) ≤ (wrap64 ((t470.size : Int) + ((rd_T28 t472 0).f2))) then (if (wrap64 ((t470.size : Int) + ((rd_T28 t472 0).f2))) ≤ (a0.size : Int) then ((text_Width.f kj22 (a0.extract ((t470.size : Int) : Int).toNat ((wrap64 ((t470.size : Int) + ((rd_T28 t472 0).f2))) : Int).toNat)).bind fun t478 => (if (wrap64 (t471 + t478)) ≤ a1 then (some false) else (shardlaw1_TextFits.j4 kj22 a1 a2 t470 t471))) else (none)) else (none)) else (none)) else (none)) = some r := by rw [if_neg (show ¬ (false = true) by decide)] at H; exact H
                                clear H
                                have H := H1
                                clear H1
                                by_cases c32 : 0 < (t472.length : Int)
                                · rw [if_pos c32] at H
                                  have c32b0 : decide (0 < (t472.length : Int)) = true := decide_eq_true c32
                                  have c32b1 : decide (0 < t472.length) = true := decide_eq_true (by omega)
                                  clear c32
                                  by_cases c33 : 0 ≤ (t470.size : Int)
                                  · rw [if_pos c33] at H
                                    have c33b0 := eq_true c33
                                    have c33b1 : decide (0 ≤ (t470.size : Int)) = true := decide_eq_true c33
                                    clear c33
                                    by_cases c34 : (t470.size : Int) ≤ (wrap64 ((t470.size : Int) + ((rd_T28 t472 0).f2)))
                                    · rw [if_pos c34] at H
                                      have c34b0 := eq_true c34
                                      have c34b1 : decide ((t470.size : Int) ≤ (wrap64 ((t470.size : Int) + ((rd_T28 t472 0).f2)))) = true := decide_eq_true c34
                                      by_cases c35 : (wrap64 ((t470.size : Int) + ((rd_T28 t472 0).f2))) ≤ (a0.size : Int)
                                      · rw [if_pos c35] at H
                                        have c35b0 := eq_true c35
                                        have c35b1 : decide ((wrap64 ((t470.size : Int) + ((rd_T28 t472 0).f2))) ≤ (a0.size : Int)) = true := decide_eq_true c35
                                        replace H := Option.bind_eq_some_iff.mp H
                                        obtain ⟨t478, A360, H⟩ := H
                                        replace H : (if (wrap64 (t471 + t478)) ≤ a1 then (some false) else (shardlaw1_TextFits.j4 kj22 a1 a2 t470 t471)) = some r := H
                                        have A36 := Aside0.mk A360
                                        clear A360
                                        by_cases c37 : (wrap64 (t471 + t478)) ≤ a1
                                        · rw [if_pos c37] at H
                                          have c37b0 : decide ((wrap64 (t471 + t478)) ≤ a1) = true := decide_eq_true c37
                                          clear c37
                                          obtain rfl := Option.some.inj H
                                          obtain ⟨Ao38, co38, eo38⟩ := Kd.R_slice HO_9.out
                                          subst eo38
                                          have p477 : 0 ≤ (0 : Int) := (by omega)
                                          have q477 : 0 < (t472.length : Int) := of_decide_eq_true (by first | (with_reducible assumption) | assumption)
                                          obtain ⟨ad477, e477, hx477_0, hx477_1, hx477_2, hx477_3⟩ := at_T28 (Kd.R_reads' HO_9.out).2.2 0 p477 q477
                                          cases e477
                                          have qi477 : (0 < t472.length) = True := eq_true (by omega)
                                          (try rw [show ((0 : Int)).toNat = 0 from rfl] at hx477_0)
                                          (try rw [show 0 * 4 = 0 from rfl] at hx477_0)
                                          (try rw [Addr.add_zero'] at hx477_0)
                                          (try rw [show ((0 : Int)).toNat = 0 from rfl] at hx477_1)
                                          (try rw [show 0 * 4 = 0 from rfl] at hx477_1)
                                          (try rw [Addr.add_zero'] at hx477_1)
                                          (try rw [show ((0 : Int)).toNat = 0 from rfl] at hx477_2)
                                          (try rw [show 0 * 4 = 0 from rfl] at hx477_2)
                                          (try rw [Addr.add_zero'] at hx477_2)
                                          (try rw [show ((0 : Int)).toNat = 0 from rfl] at hx477_3)
                                          (try rw [show 0 * 4 = 0 from rfl] at hx477_3)
                                          (try rw [Addr.add_zero'] at hx477_3)
                                          replace p477 := eq_true p477
                                          replace q477 := eq_true q477
                                          go_wp2_with (first | ((with_reducible refine gate_callee (f := 28) rfl ?_); refine goesL_ (some 87) rfl rfl Try.func28 (by kernel_rfl) rfl #[.string (a0.extract ((t470.size : Int) : Int).toNat ((wrap64 ((t470.size : Int) + ((rd_T28 t472 0).f2))) : Int).toNat)] rfl (by (try simp only [List.map_toArray, List.map_cons, List.map_nil]); first | done | rfl | (simp only [List.length_drop, List.length_take]; rfl)) ?_; (with_reducible refine (text_Width.calls kj22 (a0.extract ((t470.size : Int) : Int).toNat ((wrap64 ((t470.size : Int) + ((rd_T28 t472 0).f2))) : Int).toNat) t478 _ A36.out).mono ?_); rintro e w39 ⟨rfl, hb⟩; refine ⟨_, rfl, ?_⟩; have n0_ := Aside0.mk (Kd.R_below (by (with_reducible repeat (first | apply Kd.R_alloc | apply Kd.R_drewN | apply Kd.R_drew)); exact HO_9.out) hb); have n1_ := Aside0.mk (below_step (by repeat (first | (with_reducible first | exact HB.out | apply below_alloc | apply pw_below_drewN | apply below_drew1) | exact HB.out)) hb); clear HO_9; clear HB; have HO_9 := n0_; have HB := n1_; clear n0_ n1_; (try clear hb); (try clear hb2); (try clear hk); (try clear hi)))
                                          go_ret
                                          exact ⟨by first | rfl | (simp [errW_none, errW_some] <;> rfl) | (simp [*, errW_none, errW_some] <;> rfl), by repeat (first | (with_reducible first | exact HB.out | apply below_alloc | apply pw_below_drewN | apply below_drew1) | exact HB.out)⟩
                                        · rw [if_neg c37] at H
                                          have c37b0 : decide ((wrap64 (t471 + t478)) ≤ a1) = false := decide_eq_false c37
                                          clear c37
                                          have H' := Aside0.mk H
                                          clear H
                                          obtain ⟨Ao40, co40, eo40⟩ := Kd.R_slice HO_9.out
                                          subst eo40
                                          have p477 : 0 ≤ (0 : Int) := (by omega)
                                          have q477 : 0 < (t472.length : Int) := of_decide_eq_true (by first | (with_reducible assumption) | assumption)
                                          obtain ⟨ad477, e477, hx477_0, hx477_1, hx477_2, hx477_3⟩ := at_T28 (Kd.R_reads' HO_9.out).2.2 0 p477 q477
                                          cases e477
                                          have qi477 : (0 < t472.length) = True := eq_true (by omega)
                                          (try rw [show ((0 : Int)).toNat = 0 from rfl] at hx477_0)
                                          (try rw [show 0 * 4 = 0 from rfl] at hx477_0)
                                          (try rw [Addr.add_zero'] at hx477_0)
                                          (try rw [show ((0 : Int)).toNat = 0 from rfl] at hx477_1)
                                          (try rw [show 0 * 4 = 0 from rfl] at hx477_1)
                                          (try rw [Addr.add_zero'] at hx477_1)
                                          (try rw [show ((0 : Int)).toNat = 0 from rfl] at hx477_2)
                                          (try rw [show 0 * 4 = 0 from rfl] at hx477_2)
                                          (try rw [Addr.add_zero'] at hx477_2)
                                          (try rw [show ((0 : Int)).toNat = 0 from rfl] at hx477_3)
                                          (try rw [show 0 * 4 = 0 from rfl] at hx477_3)
                                          (try rw [Addr.add_zero'] at hx477_3)
                                          replace p477 := eq_true p477
                                          replace q477 := eq_true q477
                                          go_wp2_with (first | ((with_reducible refine gate_callee (f := 28) rfl ?_); refine goesL_ (some 87) rfl rfl Try.func28 (by kernel_rfl) rfl #[.string (a0.extract ((t470.size : Int) : Int).toNat ((wrap64 ((t470.size : Int) + ((rd_T28 t472 0).f2))) : Int).toNat)] rfl (by (try simp only [List.map_toArray, List.map_cons, List.map_nil]); first | done | rfl | (simp only [List.length_drop, List.length_take]; rfl)) ?_; (with_reducible refine (text_Width.calls kj22 (a0.extract ((t470.size : Int) : Int).toNat ((wrap64 ((t470.size : Int) + ((rd_T28 t472 0).f2))) : Int).toNat) t478 _ A36.out).mono ?_); rintro e w41 ⟨rfl, hb⟩; refine ⟨_, rfl, ?_⟩; have n0_ := Aside0.mk (Kd.R_below (by (with_reducible repeat (first | apply Kd.R_alloc | apply Kd.R_drewN | apply Kd.R_drew)); exact HO_9.out) hb); have n1_ := Aside0.mk (below_step (by repeat (first | (with_reducible first | exact HB.out | apply below_alloc | apply pw_below_drewN | apply below_drew1) | exact HB.out)) hb); clear HO_9; clear HB; have HO_9 := n0_; have HB := n1_; clear n0_ n1_; (try clear hb); (try clear hb2); (try clear hk); (try clear hi)))
                                          go_meet
                                          case rel => exact ⟨_, H', ⟨by have := HJ5.out; have := HJ12.out; have := HJ15.out; have := HJ22.out; first | omega | exact Nat.le_refl _⟩, ⟨by repeat (first | (with_reducible first | exact HB.out | apply below_alloc | apply pw_below_drewN | apply below_drew1) | exact HB.out)⟩⟩
                                      · rw [if_neg c35] at H
                                        exact absurd H (by simp)
                                    · rw [if_neg c34] at H
                                      exact absurd H (by simp)
                                  · rw [if_neg c33] at H
                                    exact absurd H (by simp)
                                · rw [if_neg c32] at H
                                  exact absurd H (by simp)
                        · rw [if_neg c21] at H
                          exact absurd H (by simp)
                      · rw [if_neg c20] at H
                        exact absurd H (by simp)
                    · replace c19 := Bool.eq_false_iff.mpr c19
                      subst c19
                      have H1 : (shardlaw1_TextFits.j4 kj15 a1 a2 t470 t471) = some r := by rw [if_neg (show ¬ (false = true) by decide)] at H; exact H
                      clear H
                      have H := H1
                      clear H1
                      have H' := Aside0.mk H
                      clear H
                      go_wp2
                      go_meet
                      case rel => exact ⟨_, H', ⟨by have := HJ5.out; have := HJ12.out; have := HJ15.out; first | omega | exact Nat.le_refl _⟩, ⟨by repeat (first | (with_reducible first | exact HB.out | apply below_alloc | apply pw_below_drewN | apply below_drew1) | exact HB.out)⟩⟩
                  case rest => as_aux_lemma =>
                    clear HC18
                    try clear c1
                    try clear c2
                    try clear p2
                    try clear c3
                    try clear p4
                    try clear q4
                    try clear hx4
                    try clear qi4
                    try clear p6
                    try clear c9
                    try clear c9b0
                    try clear c9b1
                    try clear c10
                    try clear c10b0
                    try clear c10b1
                    try clear c11
                    try clear c11b0
                    try clear c11b1
                    try clear c12
                    try clear c14
                    try clear c14b0
                    try clear c15
                    try clear c17
                    try clear c17b0
                    try clear c17b1
                    try clear c19
                    try clear c20
                    try clear c20b0
                    try clear c20b1
                    try clear c21
                    try clear c21b0
                    try clear c21b1
                    try clear c25
                    try clear c25b0
                    try clear c25b1
                    try clear c25b2
                    try clear c27
                    try clear c27b0
                    try clear c27b1
                    try clear c28
                    try clear c28b0
                    try clear c29
                    try clear c31
                    try clear c32
                    try clear c32b0
                    try clear c32b1
                    try clear c33
                    try clear c33b0
                    try clear c33b1
                    try clear c34
                    try clear c34b0
                    try clear c34b1
                    try clear c35
                    try clear c35b0
                    try clear c35b1
                    try clear c37
                    try clear c37b0
                    try clear hx475_0
                    try clear hx475_1
                    try clear hx475_2
                    try clear hx475_3
                    try clear hx476_0
                    try clear hx476_1
                    try clear hx476_2
                    try clear hx476_3
                    try clear hx477_0
                    try clear hx477_1
                    try clear hx477_2
                    try clear hx477_3
                    try clear p2
                    try clear p4
                    try clear p475
                    try clear p476
                    try clear p477
                    try clear p6
                    try clear q4
                    try clear q475
                    try clear q476
                    try clear q477
                    obtain ⟨kq, HA, HJ17, HB⟩ := hcut
                    cases kq with
                    | zero => exact absurd HA.out (by simp [shardlaw1_TextFits.j4])
                    | succ kj17 =>
                      have H := HA.out
                      clear HA
                      simp only [shardlaw1_TextFits.j4] at H
                      replace H := Option.bind_eq_some_iff.mp H
                      obtain ⟨⟨t479, t480⟩, A420, H⟩ := H
                      replace H : (if a1 < 0 then (shardlaw1_TextFits.j5 kj17 a1 a2 t470 t471 t479 t480 true) else (if a1 > 400 then (shardlaw1_TextFits.j5 kj17 a1 a2 t470 t471 t479 t480 true) else (if a2 < 0 then (shardlaw1_TextFits.j5 kj17 a1 a2 t470 t471 t479 t480 true) else (shardlaw1_TextFits.j5 kj17 a1 a2 t470 t471 t479 t480 (decide (a2 > 2)))))) = some r := H
                      have A42 := Aside0.mk A420
                      clear A420
                      have HC43 := Aside0.mk H
                      clear H
                      go_upto_region 14 with (first | ((with_reducible refine gate_callee (f := 30) rfl ?_); refine goesL_ (some 95) rfl rfl Try.func30 (by kernel_rfl) rfl #[.string t470, .int .i64 a1, .int .i64 a2] rfl (by (try simp only [List.map_toArray, List.map_cons, List.map_nil]); first | done | rfl | (simp only [List.length_drop, List.length_take]; rfl)) ?_; (with_reducible refine (text_Pad.calls kj17 t470 a1 a2 t479 t480 _ A42.out).mono ?_); rintro e w44 ⟨rfl, hb⟩; refine ⟨_, rfl, ?_⟩; have n0_ := Aside0.mk (below_step (by repeat (first | (with_reducible first | exact HB.out | apply below_alloc | apply pw_below_drewN | apply below_drew1) | exact HB.out)) hb); clear HB; have HB := n0_; clear n0_; (try clear hb); (try clear hb2); (try clear hk); (try clear hi)))
                      (try simp only [Act.put, List.setIfInBounds_toArray, List.set_cons_zero, List.set_cons_succ])
                      go_cut [111] (fun v111 wc => ∃ (kq : Nat) (x111_42 : Bool), v111 = .bool x111_42 ∧ Aside0 (shardlaw1_TextFits.j5 kq a1 a2 t470 t471 t479 t480 x111_42 = some r) ∧ Aside0 (kq ≤ kj17) ∧ Aside0 (Below w.heap.size w wc))
                      case first =>
                        have H := HC43.out
                        clear HC43
                        by_cases c45 : a1 < 0
                        · rw [if_pos c45] at H
                          have c45b0 : decide (a1 < 0) = true := decide_eq_true c45
                          clear c45
                          (first | rw [c45b0] | (simp only [i64_w, i32_w]; rw [c45b0]) | skip)
                          have H' := Aside0.mk H
                          clear H
                          go_wp2
                          go_meet
                          case rel => exact ⟨_, (true), (by first | rfl | (simp; done) | (simp [*]; done)), H', ⟨by have := HJ5.out; have := HJ12.out; have := HJ15.out; have := HJ17.out; first | omega | exact Nat.le_refl _⟩, ⟨by repeat (first | (with_reducible first | exact HB.out | apply below_alloc | apply pw_below_drewN | apply below_drew1) | exact HB.out)⟩⟩
                        · rw [if_neg c45] at H
                          have c45b0 : decide (a1 < 0) = false := decide_eq_false c45
                          clear c45
                          (first | rw [c45b0] | (simp only [i64_w, i32_w]; rw [c45b0]) | skip)
                          by_cases c46 : a1 > 400
                          · rw [if_pos c46] at H
                            have c46b0 : decide (400 < a1) = true := decide_eq_true c46
                            clear c46
                            have H' := Aside0.mk H
                            clear H
                            go_wp2
                            go_meet
                            case rel => exact ⟨_, (true), (by first | rfl | (simp; done) | (simp [*]; done)), H', ⟨by have := HJ5.out; have := HJ12.out; have := HJ15.out; have := HJ17.out; first | omega | exact Nat.le_refl _⟩, ⟨by repeat (first | (with_reducible first | exact HB.out | apply below_alloc | apply pw_below_drewN | apply below_drew1) | exact HB.out)⟩⟩
                          · rw [if_neg c46] at H
                            have c46b0 : decide (400 < a1) = false := decide_eq_false c46
                            clear c46
                            by_cases c47 : a2 < 0
                            · rw [if_pos c47] at H
                              have c47b0 : decide (a2 < 0) = true := decide_eq_true c47
                              clear c47
                              have H' := Aside0.mk H
                              clear H
                              go_wp2
                              go_meet
                              case rel => exact ⟨_, (true), (by first | rfl | (simp; done) | (simp [*]; done)), H', ⟨by have := HJ5.out; have := HJ12.out; have := HJ15.out; have := HJ17.out; first | omega | exact Nat.le_refl _⟩, ⟨by repeat (first | (with_reducible first | exact HB.out | apply below_alloc | apply pw_below_drewN | apply below_drew1) | exact HB.out)⟩⟩
                            · rw [if_neg c47] at H
                              have c47b0 : decide (a2 < 0) = false := decide_eq_false c47
                              clear c47
                              have H' := Aside0.mk H
                              clear H
                              go_wp2
                              go_meet
                              case rel => exact ⟨_, (decide (a2 > 2)), (by first | rfl | (simp; done) | (simp [*]; done)), H', ⟨by have := HJ5.out; have := HJ12.out; have := HJ15.out; have := HJ17.out; first | omega | exact Nat.le_refl _⟩, ⟨by repeat (first | (with_reducible first | exact HB.out | apply below_alloc | apply pw_below_drewN | apply below_drew1) | exact HB.out)⟩⟩
                      case rest => as_aux_lemma =>
                        clear HC43
                        try clear c1
                        try clear c2
                        try clear p2
                        try clear c3
                        try clear c4
                        try clear p4
                        try clear q4
                        try clear hx4
                        try clear qi4
                        try clear p6
                        try clear c9
                        try clear c9b0
                        try clear c9b1
                        try clear c10
                        try clear c10b0
                        try clear c10b1
                        try clear c11
                        try clear c11b0
                        try clear c11b1
                        try clear c12
                        try clear c14
                        try clear c14b0
                        try clear c15
                        try clear c17
                        try clear c17b0
                        try clear c17b1
                        try clear c19
                        try clear c20
                        try clear c20b0
                        try clear c20b1
                        try clear c21
                        try clear c21b0
                        try clear c21b1
                        try clear c25
                        try clear c25b0
                        try clear c25b1
                        try clear c25b2
                        try clear c27
                        try clear c27b0
                        try clear c27b1
                        try clear c28
                        try clear c28b0
                        try clear c29
                        try clear c30
                        try clear c31
                        try clear c32
                        try clear c32b0
                        try clear c32b1
                        try clear c33
                        try clear c33b0
                        try clear c33b1
                        try clear c34
                        try clear c34b0
                        try clear c34b1
                        try clear c35
                        try clear c35b0
                        try clear c35b1
                        try clear c37
                        try clear c37b0
                        try clear c45
                        try clear c45b0
                        try clear c46
                        try clear c46b0
                        try clear c47
                        try clear c47b0
                        try clear p47
                        try clear q47
                        try clear hx47
                        try clear qi47
                        try clear hx475_0
                        try clear hx475_1
                        try clear hx475_2
                        try clear hx475_3
                        try clear hx476_0
                        try clear hx476_1
                        try clear hx476_2
                        try clear hx476_3
                        try clear hx477_0
                        try clear hx477_1
                        try clear hx477_2
                        try clear hx477_3
                        try clear p2
                        try clear p4
                        try clear p475
                        try clear p476
                        try clear p477
                        try clear p6
                        try clear q4
                        try clear q475
                        try clear q476
                        try clear q477
                        obtain ⟨kq, x111_42, rfl, HA, HJ42, HB⟩ := hcut
                        cases kq with
                        | zero => exact absurd HA.out (by simp [shardlaw1_TextFits.j5])
                        | succ kj42 =>
                          have H := HA.out
                          clear HA
                          simp only [shardlaw1_TextFits.j5] at H
                          by_cases c48 : x111_42 = true
                          · subst c48
                            have H1 : (if t480 = 2 then (some (t479.toList == ([] : List UInt8))) else (some false)) = some r := by rw [if_pos rfl] at H; exact H
                            clear H
                            have H := H1
                            clear H1
                            by_cases c49 : t480 = 2
                            · rw [if_pos c49] at H
                              have c49b0 : (t480 == 2) = true := beq_iff_eq.mpr c49
                              have c49b1 : (t480 != 2) = false := bne_eq_false_iff_eq.mpr c49
                              clear c49
                              obtain rfl := Option.some.inj H
                              go_wp2
                              go_ret
                              exact ⟨by first | rfl | (simp [errW_none, errW_some] <;> rfl) | (simp [*, errW_none, errW_some] <;> rfl), by repeat (first | (with_reducible first | exact HB.out | apply below_alloc | apply pw_below_drewN | apply below_drew1) | exact HB.out)⟩
                            · rw [if_neg c49] at H
                              have c49b0 : (t480 == 2) = false := beq_eq_false_iff_ne.mpr c49
                              have c49b1 : (t480 != 2) = true := bne_iff_ne.mpr c49
                              obtain rfl := Option.some.inj H
                              go_wp2
                              go_ret
                              exact ⟨by first | rfl | (simp [errW_none, errW_some] <;> rfl) | (simp [*, errW_none, errW_some] <;> rfl), by repeat (first | (with_reducible first | exact HB.out | apply below_alloc | apply pw_below_drewN | apply below_drew1) | exact HB.out)⟩
                          · replace c48 := Bool.eq_false_iff.mpr c48
                            subst c48
                            have H1 : ((text_Width.f kj42 t479).bind fun t481 => (if t480 = 0 then (if t481 = a1 then (shardlaw1_TextFits.j6 kj42 a1 a2 t470 t471 t479 ((t479.size : Int) != (wrap64 ((wrap64 ((t470.size : Int) + a1)) - t471)))) else (shardlaw1_TextFits.j6 kj42 a1 a2 t470 t471 t479 true)) else (shardlaw1_TextFits.j6 kj42 a1 a2 t470 t471 t479 true))) = some r := by rw [if_neg (show ¬ (false = true) by decide)] at H; exact H
                            clear H
                            have H := H1
                            clear H1
                            replace H := Option.bind_eq_some_iff.mp H
                            obtain ⟨t481, A500, H⟩ := H
                            replace H : (if t480 = 0 then (if t481 = a1 then (shardlaw1_TextFits.j6 kj42 a1 a2 t470 t471 t479 ((t479.size : Int) != (wrap64 ((wrap64 ((t470.size : Int) + a1)) - t471)))) else (shardlaw1_TextFits.j6 kj42 a1 a2 t470 t471 t479 true)) else (shardlaw1_TextFits.j6 kj42 a1 a2 t470 t471 t479 true)) = some r := H
                            have A50 := Aside0.mk A500
                            clear A500
                            have HC51 := Aside0.mk H
                            clear H
                            go_upto_region 17 with (first | ((with_reducible refine gate_callee (f := 28) rfl ?_); refine goesL_ (some 119) rfl rfl Try.func28 (by kernel_rfl) rfl #[.string t479] rfl (by (try simp only [List.map_toArray, List.map_cons, List.map_nil]); first | done | rfl | (simp only [List.length_drop, List.length_take]; rfl)) ?_; (with_reducible refine (text_Width.calls kj42 t479 t481 _ A50.out).mono ?_); rintro e w52 ⟨rfl, hb⟩; refine ⟨_, rfl, ?_⟩; have n0_ := Aside0.mk (below_step (by repeat (first | (with_reducible first | exact HB.out | apply below_alloc | apply pw_below_drewN | apply below_drew1) | exact HB.out)) hb); clear HB; have HB := n0_; clear n0_; (try clear hb); (try clear hb2); (try clear hk); (try clear hi)))
                            (try simp only [Act.put, List.setIfInBounds_toArray, List.set_cons_zero, List.set_cons_succ])
                            go_cut [137] (fun v137 wc => ∃ (kq : Nat) (x137_50 : Bool), v137 = .bool x137_50 ∧ Aside0 (shardlaw1_TextFits.j6 kq a1 a2 t470 t471 t479 x137_50 = some r) ∧ Aside0 (kq ≤ kj42) ∧ Aside0 (Below w.heap.size w wc))
                            case first =>
                              have H := HC51.out
                              clear HC51
                              by_cases c53 : t480 = 0
                              · rw [if_pos c53] at H
                                have c53b0 : (t480 == 0) = true := beq_iff_eq.mpr c53
                                have c53b1 : (t480 != 0) = false := bne_eq_false_iff_eq.mpr c53
                                clear c53
                                (first | rw [c53b0] | (simp only [i64_w, i32_w]; rw [c53b0]) | skip)
                                by_cases c54 : t481 = a1
                                · rw [if_pos c54] at H
                                  have c54b0 : (t481 == a1) = true := beq_iff_eq.mpr c54
                                  have c54b1 : (t481 != a1) = false := bne_eq_false_iff_eq.mpr c54
                                  clear c54
                                  have H' := Aside0.mk H
                                  clear H
                                  go_wp2
                                  go_meet
                                  case rel => exact ⟨_, (((t479.size : Int) != (wrap64 ((wrap64 ((t470.size : Int) + a1)) - t471)))), (by first | rfl | (simp; done) | (simp [*]; done)), H', ⟨by have := HJ5.out; have := HJ12.out; have := HJ15.out; have := HJ17.out; have := HJ42.out; first | omega | exact Nat.le_refl _⟩, ⟨by repeat (first | (with_reducible first | exact HB.out | apply below_alloc | apply pw_below_drewN | apply below_drew1) | exact HB.out)⟩⟩
                                · rw [if_neg c54] at H
                                  have c54b0 : (t481 == a1) = false := beq_eq_false_iff_ne.mpr c54
                                  have c54b1 : (t481 != a1) = true := bne_iff_ne.mpr c54
                                  have H' := Aside0.mk H
                                  clear H
                                  go_wp2
                                  go_meet
                                  case rel => exact ⟨_, (true), (by first | rfl | (simp; done) | (simp [*]; done)), H', ⟨by have := HJ5.out; have := HJ12.out; have := HJ15.out; have := HJ17.out; have := HJ42.out; first | omega | exact Nat.le_refl _⟩, ⟨by repeat (first | (with_reducible first | exact HB.out | apply below_alloc | apply pw_below_drewN | apply below_drew1) | exact HB.out)⟩⟩
                              · rw [if_neg c53] at H
                                have c53b0 : (t480 == 0) = false := beq_eq_false_iff_ne.mpr c53
                                have c53b1 : (t480 != 0) = true := bne_iff_ne.mpr c53
                                (first | rw [c53b0] | (simp only [i64_w, i32_w]; rw [c53b0]) | skip)
                                have H' := Aside0.mk H
                                clear H
                                go_wp2
                                go_meet
                                case rel => exact ⟨_, (true), (by first | rfl | (simp; done) | (simp [*]; done)), H', ⟨by have := HJ5.out; have := HJ12.out; have := HJ15.out; have := HJ17.out; have := HJ42.out; first | omega | exact Nat.le_refl _⟩, ⟨by repeat (first | (with_reducible first | exact HB.out | apply below_alloc | apply pw_below_drewN | apply below_drew1) | exact HB.out)⟩⟩
                            case rest => as_aux_lemma =>
                              clear HC51
                              try clear c1
                              try clear c2
                              try clear p2
                              try clear c3
                              try clear c4
                              try clear p4
                              try clear q4
                              try clear hx4
                              try clear qi4
                              try clear c5
                              try clear p6
                              try clear c9
                              try clear c9b0
                              try clear c9b1
                              try clear c10
                              try clear c10b0
                              try clear c10b1
                              try clear c11
                              try clear c11b0
                              try clear c11b1
                              try clear c12
                              try clear c14
                              try clear c14b0
                              try clear c15
                              try clear c17
                              try clear c17b0
                              try clear c17b1
                              try clear c19
                              try clear c20
                              try clear c20b0
                              try clear c20b1
                              try clear c21
                              try clear c21b0
                              try clear c21b1
                              try clear c25
                              try clear c25b0
                              try clear c25b1
                              try clear c25b2
                              try clear c27
                              try clear c27b0
                              try clear c27b1
                              try clear c28
                              try clear c28b0
                              try clear c29
                              try clear c30
                              try clear c31
                              try clear c32
                              try clear c32b0
                              try clear c32b1
                              try clear c33
                              try clear c33b0
                              try clear c33b1
                              try clear c34
                              try clear c34b0
                              try clear c34b1
                              try clear c35
                              try clear c35b0
                              try clear c35b1
                              try clear c37
                              try clear c37b0
                              try clear c45
                              try clear c45b0
                              try clear c46
                              try clear c46b0
                              try clear c47
                              try clear c47b0
                              try clear p47
                              try clear q47
                              try clear hx47
                              try clear qi47
                              try clear c48
                              try clear c49
                              try clear c49b0
                              try clear c49b1
                              try clear c53
                              try clear c53b0
                              try clear c53b1
                              try clear c54
                              try clear c54b0
                              try clear c54b1
                              try clear hx475_0
                              try clear hx475_1
                              try clear hx475_2
                              try clear hx475_3
                              try clear hx476_0
                              try clear hx476_1
                              try clear hx476_2
                              try clear hx476_3
                              try clear hx477_0
                              try clear hx477_1
                              try clear hx477_2
                              try clear hx477_3
                              try clear p2
                              try clear p4
                              try clear p47
                              try clear p475
                              try clear p476
                              try clear p477
                              try clear p6
                              try clear q4
                              try clear q47
                              try clear q475
                              try clear q476
                              try clear q477
                              obtain ⟨kq, x137_50, rfl, HA, HJ50, HB⟩ := hcut
                              cases kq with
                              | zero => exact absurd HA.out (by simp [shardlaw1_TextFits.j6])
                              | succ kj50 =>
                                have H := HA.out
                                clear HA
                                simp only [shardlaw1_TextFits.j6] at H
                                by_cases c55 : x137_50 = true
                                · subst c55
                                  have H1 : (some false) = some r := by rw [if_pos rfl] at H; exact H
                                  clear H
                                  have H := H1
                                  clear H1
                                  obtain rfl := Option.some.inj H
                                  go_wp2
                                  go_ret
                                  exact ⟨by first | rfl | (simp [errW_none, errW_some] <;> rfl) | (simp [*, errW_none, errW_some] <;> rfl), by repeat (first | (with_reducible first | exact HB.out | apply below_alloc | apply pw_below_drewN | apply below_drew1) | exact HB.out)⟩
                                · replace c55 := Bool.eq_false_iff.mpr c55
                                  subst c55
                                  have H1 : (shardlaw1_TextFits.l0 kj50 a1 a2 t470 t471 t479 0) = some r := by rw [if_neg (show ¬ (false = true) by decide)] at H; exact H
                                  clear H
                                  have H := H1
                                  clear H1
                                  have H' := Aside0.mk H
                                  clear H
                                  go_wp2
                                  go_loopg [13] kj50 (fun kq v13 w' => ∃ (x13_7 : Int), v13 = .int .i64 x13_7 ∧ Aside0 (shardlaw1_TextFits.l0 kq a1 a2 t470 t471 t479 x13_7 = some r) ∧ Aside0 (kq ≤ kj50) ∧ Aside0 (Below w.heap.size w w'))
                                  case atStart => exact ⟨(0), (by first | rfl | (simp; done) | (simp [*]; done)), H', ⟨Nat.le_refl _⟩, ⟨by repeat (first | (with_reducible first | exact HB.out | apply below_alloc | apply pw_below_drewN | apply below_drew1) | exact HB.out)⟩⟩
                                  case round => as_aux_lemma =>
                                    clear H'
                                    try clear c1
                                    try clear c2
                                    try clear p2
                                    try clear c3
                                    try clear c4
                                    try clear p4
                                    try clear q4
                                    try clear hx4
                                    try clear qi4
                                    try clear c5
                                    try clear p6
                                    try clear c9
                                    try clear c9b0
                                    try clear c9b1
                                    try clear c10
                                    try clear c10b0
                                    try clear c10b1
                                    try clear c11
                                    try clear c11b0
                                    try clear c11b1
                                    try clear c12
                                    try clear c14
                                    try clear c14b0
                                    try clear c15
                                    try clear c17
                                    try clear c17b0
                                    try clear c17b1
                                    try clear c19
                                    try clear c20
                                    try clear c20b0
                                    try clear c20b1
                                    try clear c21
                                    try clear c21b0
                                    try clear c21b1
                                    try clear c25
                                    try clear c25b0
                                    try clear c25b1
                                    try clear c25b2
                                    try clear c27
                                    try clear c27b0
                                    try clear c27b1
                                    try clear c28
                                    try clear c28b0
                                    try clear c29
                                    try clear c30
                                    try clear c31
                                    try clear c32
                                    try clear c32b0
                                    try clear c32b1
                                    try clear c33
                                    try clear c33b0
                                    try clear c33b1
                                    try clear c34
                                    try clear c34b0
                                    try clear c34b1
                                    try clear c35
                                    try clear c35b0
                                    try clear c35b1
                                    try clear c37
                                    try clear c37b0
                                    try clear c45
                                    try clear c45b0
                                    try clear c46
                                    try clear c46b0
                                    try clear c47
                                    try clear c47b0
                                    try clear p47
                                    try clear q47
                                    try clear hx47
                                    try clear qi47
                                    try clear c48
                                    try clear c49
                                    try clear c49b0
                                    try clear c49b1
                                    try clear c53
                                    try clear c53b0
                                    try clear c53b1
                                    try clear c54
                                    try clear c54b0
                                    try clear c54b1
                                    try clear c55
                                    try clear hx475_0
                                    try clear hx475_1
                                    try clear hx475_2
                                    try clear hx475_3
                                    try clear hx476_0
                                    try clear hx476_1
                                    try clear hx476_2
                                    try clear hx476_3
                                    try clear hx477_0
                                    try clear hx477_1
                                    try clear hx477_2
                                    try clear hx477_3
                                    try clear p2
                                    try clear p4
                                    try clear p47
                                    try clear p475
                                    try clear p476
                                    try clear p477
                                    try clear p6
                                    try clear q4
                                    try clear q47
                                    try clear q475
                                    try clear q476
                                    try clear q477
                                    obtain ⟨x13_7, rfl, HA, HK7, HB⟩ := hrel
                                    cases gk with
                                    | zero => exact absurd HA.out (by simp [shardlaw1_TextFits.l0])
                                    | succ k7 =>
                                      have H := HA.out
                                      clear HA
                                      simp only [shardlaw1_TextFits.l0] at H
                                      by_cases c56 : x13_7 < (wrap64 ((t479.size : Int) - (t470.size : Int)))
                                      · rw [if_pos c56] at H
                                        have c56b0 : decide (x13_7 < (wrap64 ((t479.size : Int) - (t470.size : Int)))) = true := decide_eq_true c56
                                        clear c56
                                        by_cases c57 : 0 ≤ x13_7
                                        · rw [if_pos c57] at H
                                          have c57b0 : decide (0 ≤ x13_7) = true := decide_eq_true c57
                                          clear c57
                                          by_cases c58 : x13_7 < (t479.size : Int)
                                          · rw [if_pos c58] at H
                                            have c58b0 : decide (x13_7 < (t479.size : Int)) = true := decide_eq_true c58
                                            clear c58
                                            by_cases c60 : (bt t479 x13_7) = 32
                                            · rw [if_pos c60] at H
                                              have c60b0 : ((bt t479 x13_7) == 32) = true := beq_iff_eq.mpr c60
                                              have c60b1 : ((bt t479 x13_7) != 32) = false := bne_eq_false_iff_eq.mpr c60
                                              clear c60
                                              by_cases c61 : a2 = 1
                                              · rw [if_pos c61] at H
                                                have c61b0 : (a2 == 1) = true := beq_iff_eq.mpr c61
                                                have c61b1 : (a2 != 1) = false := bne_eq_false_iff_eq.mpr c61
                                                clear c61
                                                have H' := Aside0.mk H
                                                clear H
                                                have p59 : 0 ≤ (x13_7 : Int) := of_decide_eq_true (by first | (with_reducible assumption) | assumption)
                                                have q59 : x13_7 < (t479.size : Int) := of_decide_eq_true (by first | (with_reducible assumption) | assumption)
                                                have hx59 := bt_at t479 x13_7
                                                replace p59 := eq_true p59
                                                replace q59 := eq_true q59
                                                go_wp2
                                                go_roundg k7
                                                case measure => have := HJ5.out; have := HJ12.out; have := HJ15.out; have := HJ17.out; have := HJ42.out; have := HJ50.out; have := HK7.out; omega
                                                case rel => exact ⟨(wrap64 (x13_7 + 1)), (by first | rfl | (simp; done) | (simp [*]; done)), H', ⟨by have := HJ5.out; have := HJ12.out; have := HJ15.out; have := HJ17.out; have := HJ42.out; have := HJ50.out; have := HK7.out; omega⟩, ⟨by repeat (first | (with_reducible first | exact HB.out | apply below_alloc | apply pw_below_drewN | apply below_drew1) | exact HB.out)⟩⟩
                                              · rw [if_neg c61] at H
                                                have c61b0 : (a2 == 1) = false := beq_eq_false_iff_ne.mpr c61
                                                have c61b1 : (a2 != 1) = true := bne_iff_ne.mpr c61
                                                by_cases c62 : a2 = 2
                                                · rw [if_pos c62] at H
                                                  have c62b0 : (a2 == 2) = true := beq_iff_eq.mpr c62
                                                  have c62b1 : (a2 != 2) = false := bne_eq_false_iff_eq.mpr c62
                                                  clear c62
                                                  by_cases c63 : x13_7 < (wrap64 (Int.tdiv (wrap64 (a1 - t471)) 2))
                                                  · rw [if_pos c63] at H
                                                    have c63b0 : decide (x13_7 < (wrap64 (Int.tdiv (wrap64 (a1 - t471)) 2))) = true := decide_eq_true c63
                                                    clear c63
                                                    have H' := Aside0.mk H
                                                    clear H
                                                    have p59 : 0 ≤ (x13_7 : Int) := of_decide_eq_true (by first | (with_reducible assumption) | assumption)
                                                    have q59 : x13_7 < (t479.size : Int) := of_decide_eq_true (by first | (with_reducible assumption) | assumption)
                                                    have hx59 := bt_at t479 x13_7
                                                    replace p59 := eq_true p59
                                                    replace q59 := eq_true q59
                                                    go_wp2
                                                    go_roundg k7
                                                    case measure => have := HJ5.out; have := HJ12.out; have := HJ15.out; have := HJ17.out; have := HJ42.out; have := HJ50.out; have := HK7.out; omega
                                                    case rel => exact ⟨(wrap64 (x13_7 + 1)), (by first | rfl | (simp; done) | (simp [*]; done)), H', ⟨by have := HJ5.out; have := HJ12.out; have := HJ15.out; have := HJ17.out; have := HJ42.out; have := HJ50.out; have := HK7.out; omega⟩, ⟨by repeat (first | (with_reducible first | exact HB.out | apply below_alloc | apply pw_below_drewN | apply below_drew1) | exact HB.out)⟩⟩
                                                  · rw [if_neg c63] at H
                                                    have c63b0 : decide (x13_7 < (wrap64 (Int.tdiv (wrap64 (a1 - t471)) 2))) = false := decide_eq_false c63
                                                    clear c63
                                                    have c64b0 := eq_true (of_decide_eq_true (by first | (with_reducible assumption) | assumption) : 0 ≤ x13_7)
                                                    by_cases c65 : x13_7 ≤ (wrap64 (x13_7 + (t470.size : Int)))
                                                    · rw [if_pos c65] at H
                                                      have c65b0 := eq_true c65
                                                      have c65b1 : decide (x13_7 ≤ (wrap64 (x13_7 + (t470.size : Int)))) = true := decide_eq_true c65
                                                      by_cases c66 : (wrap64 (x13_7 + (t470.size : Int))) ≤ (t479.size : Int)
                                                      · rw [if_pos c66] at H
                                                        have c66b0 := eq_true c66
                                                        have c66b1 : decide ((wrap64 (x13_7 + (t470.size : Int))) ≤ (t479.size : Int)) = true := decide_eq_true c66
                                                        obtain rfl := Option.some.inj H
                                                        have p59 : 0 ≤ (x13_7 : Int) := of_decide_eq_true (by first | (with_reducible assumption) | assumption)
                                                        have q59 : x13_7 < (t479.size : Int) := of_decide_eq_true (by first | (with_reducible assumption) | assumption)
                                                        have hx59 := bt_at t479 x13_7
                                                        replace p59 := eq_true p59
                                                        replace q59 := eq_true q59
                                                        go_wp2
                                                        go_ret
                                                        exact ⟨by first | rfl | (simp [errW_none, errW_some] <;> rfl) | (simp [*, errW_none, errW_some] <;> rfl), by repeat (first | (with_reducible first | exact HB.out | apply below_alloc | apply pw_below_drewN | apply below_drew1) | exact HB.out)⟩
                                                      · rw [if_neg c66] at H
                                                        exact absurd H (by simp)
                                                    · rw [if_neg c65] at H
                                                      exact absurd H (by simp)
                                                · rw [if_neg c62] at H
                                                  have c62b0 : (a2 == 2) = false := beq_eq_false_iff_ne.mpr c62
                                                  have c62b1 : (a2 != 2) = true := bne_iff_ne.mpr c62
                                                  have c67b0 := eq_true (of_decide_eq_true (by first | (with_reducible assumption) | assumption) : 0 ≤ x13_7)
                                                  by_cases c68 : x13_7 ≤ (wrap64 (x13_7 + (t470.size : Int)))
                                                  · rw [if_pos c68] at H
                                                    have c68b0 := eq_true c68
                                                    have c68b1 : decide (x13_7 ≤ (wrap64 (x13_7 + (t470.size : Int)))) = true := decide_eq_true c68
                                                    by_cases c69 : (wrap64 (x13_7 + (t470.size : Int))) ≤ (t479.size : Int)
                                                    · rw [if_pos c69] at H
                                                      have c69b0 := eq_true c69
                                                      have c69b1 : decide ((wrap64 (x13_7 + (t470.size : Int))) ≤ (t479.size : Int)) = true := decide_eq_true c69
                                                      obtain rfl := Option.some.inj H
                                                      have p59 : 0 ≤ (x13_7 : Int) := of_decide_eq_true (by first | (with_reducible assumption) | assumption)
                                                      have q59 : x13_7 < (t479.size : Int) := of_decide_eq_true (by first | (with_reducible assumption) | assumption)
                                                      have hx59 := bt_at t479 x13_7
                                                      replace p59 := eq_true p59
                                                      replace q59 := eq_true q59
                                                      go_wp2
                                                      go_ret
                                                      exact ⟨by first | rfl | (simp [errW_none, errW_some] <;> rfl) | (simp [*, errW_none, errW_some] <;> rfl), by repeat (first | (with_reducible first | exact HB.out | apply below_alloc | apply pw_below_drewN | apply below_drew1) | exact HB.out)⟩
                                                    · rw [if_neg c69] at H
                                                      exact absurd H (by simp)
                                                  · rw [if_neg c68] at H
                                                    exact absurd H (by simp)
                                            · rw [if_neg c60] at H
                                              have c60b0 : ((bt t479 x13_7) == 32) = false := beq_eq_false_iff_ne.mpr c60
                                              have c60b1 : ((bt t479 x13_7) != 32) = true := bne_iff_ne.mpr c60
                                              have c70b0 := eq_true (of_decide_eq_true (by first | (with_reducible assumption) | assumption) : 0 ≤ x13_7)
                                              by_cases c71 : x13_7 ≤ (wrap64 (x13_7 + (t470.size : Int)))
                                              · rw [if_pos c71] at H
                                                have c71b0 := eq_true c71
                                                have c71b1 : decide (x13_7 ≤ (wrap64 (x13_7 + (t470.size : Int)))) = true := decide_eq_true c71
                                                by_cases c72 : (wrap64 (x13_7 + (t470.size : Int))) ≤ (t479.size : Int)
                                                · rw [if_pos c72] at H
                                                  have c72b0 := eq_true c72
                                                  have c72b1 : decide ((wrap64 (x13_7 + (t470.size : Int))) ≤ (t479.size : Int)) = true := decide_eq_true c72
                                                  obtain rfl := Option.some.inj H
                                                  have p59 : 0 ≤ (x13_7 : Int) := of_decide_eq_true (by first | (with_reducible assumption) | assumption)
                                                  have q59 : x13_7 < (t479.size : Int) := of_decide_eq_true (by first | (with_reducible assumption) | assumption)
                                                  have hx59 := bt_at t479 x13_7
                                                  replace p59 := eq_true p59
                                                  replace q59 := eq_true q59
                                                  go_wp2
                                                  go_ret
                                                  exact ⟨by first | rfl | (simp [errW_none, errW_some] <;> rfl) | (simp [*, errW_none, errW_some] <;> rfl), by repeat (first | (with_reducible first | exact HB.out | apply below_alloc | apply pw_below_drewN | apply below_drew1) | exact HB.out)⟩
                                                · rw [if_neg c72] at H
                                                  exact absurd H (by simp)
                                              · rw [if_neg c71] at H
                                                exact absurd H (by simp)
                                          · rw [if_neg c58] at H
                                            exact absurd H (by simp)
                                        · rw [if_neg c57] at H
                                          exact absurd H (by simp)
                                      · rw [if_neg c56] at H
                                        have c56b0 : decide (x13_7 < (wrap64 ((t479.size : Int) - (t470.size : Int)))) = false := decide_eq_false c56
                                        clear c56
                                        by_cases c73 : 0 ≤ x13_7
                                        · rw [if_pos c73] at H
                                          have c73b0 := eq_true c73
                                          have c73b1 : decide (0 ≤ x13_7) = true := decide_eq_true c73
                                          clear c73
                                          by_cases c74 : x13_7 ≤ (wrap64 (x13_7 + (t470.size : Int)))
                                          · rw [if_pos c74] at H
                                            have c74b0 := eq_true c74
                                            have c74b1 : decide (x13_7 ≤ (wrap64 (x13_7 + (t470.size : Int)))) = true := decide_eq_true c74
                                            by_cases c75 : (wrap64 (x13_7 + (t470.size : Int))) ≤ (t479.size : Int)
                                            · rw [if_pos c75] at H
                                              have c75b0 := eq_true c75
                                              have c75b1 : decide ((wrap64 (x13_7 + (t470.size : Int))) ≤ (t479.size : Int)) = true := decide_eq_true c75
                                              obtain rfl := Option.some.inj H
                                              go_wp2
                                              go_ret
                                              exact ⟨by first | rfl | (simp [errW_none, errW_some] <;> rfl) | (simp [*, errW_none, errW_some] <;> rfl), by repeat (first | (with_reducible first | exact HB.out | apply below_alloc | apply pw_below_drewN | apply below_drew1) | exact HB.out)⟩
                                            · rw [if_neg c75] at H
                                              exact absurd H (by simp)
                                          · rw [if_neg c74] at H
                                            exact absurd H (by simp)
                                        · rw [if_neg c73] at H
                                          exact absurd H (by simp)

/-- THE ONE PURE STATEMENT of shardlaw1_TextFits: yours. -/
def shardlaw1_TextFits.Pure : Prop := ∀ (a0 : ByteArray) (a1 : Int) (a2 : Int), a0.size ≤ 140737488351232 → (Lit.int .i64 a1).wf = true → (Lit.int .i64 a2).wf = true → ∃ k, shardlaw1_TextFits.f k a0 a1 a2 = some true
theorem shardlaw1_TextFits.walk (P : shardlaw1_TextFits.Pure) (a0 : ByteArray) (a1 : Int) (a2 : Int) (w : World) (w0 : a0.size ≤ 140737488351232) (w1 : (Lit.int .i64 a1).wf = true) (w2 : (Lit.int .i64 a2).wf = true) :
    Calls Try.prog 11 #[.string a0, .int .i64 a1, .int .i64 a2] w fun e w' => e = .returned (.bool true) ∧ Below w.heap.size w w' := by
  obtain ⟨k, h⟩ := P a0 a1 a2 w0 w1 w2
  refine (shardlaw1_TextFits.calls k a0 a1 a2 true w h).mono ?_
  rintro e w' ⟨rfl, hd⟩
  exact ⟨rfl, hd⟩

end Go.Proofs.Ytplhcnlpfoiieaa.P
