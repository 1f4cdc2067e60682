-- Written by printx.py (this work's driver over the kit's print) out of the translation; Lean checks it.
import Derived.Test.YtplhcnlpfoiieaaDoorXGlob
import Derived.Test.YtplhcnlpfoiieaaDoorPx0
namespace Go.Proofs.YtplhcnlpfoiieaaDoor.P
open Go.RowKit Go.Proofs.YtplhcnlpfoiieaaDoorW.PrintWords Go.Proofs.YtplhcnlpfoiieaaDoorW.PrintLast Go.Proofs.YtplhcnlpfoiieaaDoorW.PrintMore
attribute [local go_sem] max2_int min2_int max_two min_two max_three min_three max_four min_four   -- for this text's walks alone
set_option linter.unusedVariables false
set_option linter.unusedSimpArgs false

/-! ### text_small: function 30 -/
-- GIVEN
/-- The table of large letters. -/
def glob_large (w : World) : Prop := CellsAt 0 .i32 [65, 90, 192, 214, 216, 222, 913, 929, 931, 937, 1040, 1071] w
theorem glob_large.below {w w' : World} (h : glob_large w) (hb : Below w.heap.size w w') : glob_large w' := CellsAt.below h hb
def text_small.v (a0 : Int) : Int := if a0 = 962 then 963 else if (65 ≤ a0 ∧ a0 ≤ 90) ∨ (192 ≤ a0 ∧ a0 ≤ 214) ∨ (216 ≤ a0 ∧ a0 ≤ 222) ∨ (913 ≤ a0 ∧ a0 ≤ 929) ∨ (931 ≤ a0 ∧ a0 ≤ 937) ∨ (1040 ≤ a0 ∧ a0 ≤ 1071) then wrap32 (a0 + 32) else a0
def text_small.f (a0 : Int) : Option (Int) := some (text_small.v a0)
theorem text_small.hit {a0 : Int} (lo hi : Int) (h : (lo = 65 ∧ hi = 90) ∨ (lo = 192 ∧ hi = 214) ∨ (lo = 216 ∧ hi = 222) ∨ (lo = 913 ∧ hi = 929) ∨ (lo = 931 ∧ hi = 937) ∨ (lo = 1040 ∧ hi = 1071)) (h1 : lo ≤ a0) (h2 : a0 ≤ hi) (hne : ¬ a0 = 962) : text_small.v a0 = wrap32 (a0 + 32) := by
  unfold text_small.v
  rw [if_neg hne, if_pos (by omega)]
set_option maxHeartbeats 8000000 in
set_option maxRecDepth 100000 in
theorem text_small.calls (a0 : Int) (r : Int) (w : World) (hG_large : glob_large w) (h : text_small.f a0 = some r) :
    Calls Tryd.prog 30 #[.int .i32 a0] w fun e w' => e = .returned (.int .i32 r) ∧ Drawn0 w w' := by
  have h' : text_small.v a0 = r := Option.some.inj h
  clear h
  have c0 : w.cell? ⟨0, 0, none⟩ = some (.int .i32 65) := hG_large.2 0 (by decide)
  have c1 : w.cell? ⟨0, 1, none⟩ = some (.int .i32 90) := hG_large.2 1 (by decide)
  have c2 : w.cell? ⟨0, 2, none⟩ = some (.int .i32 192) := hG_large.2 2 (by decide)
  have c3 : w.cell? ⟨0, 3, none⟩ = some (.int .i32 214) := hG_large.2 3 (by decide)
  have c4 : w.cell? ⟨0, 4, none⟩ = some (.int .i32 216) := hG_large.2 4 (by decide)
  have c5 : w.cell? ⟨0, 5, none⟩ = some (.int .i32 222) := hG_large.2 5 (by decide)
  have c6 : w.cell? ⟨0, 6, none⟩ = some (.int .i32 913) := hG_large.2 6 (by decide)
  have c7 : w.cell? ⟨0, 7, none⟩ = some (.int .i32 929) := hG_large.2 7 (by decide)
  have c8 : w.cell? ⟨0, 8, none⟩ = some (.int .i32 931) := hG_large.2 8 (by decide)
  have c9 : w.cell? ⟨0, 9, none⟩ = some (.int .i32 937) := hG_large.2 9 (by decide)
  have c10 : w.cell? ⟨0, 10, none⟩ = some (.int .i32 1040) := hG_large.2 10 (by decide)
  have c11 : w.cell? ⟨0, 11, none⟩ = some (.int .i32 1071) := hG_large.2 11 (by decide)
  clear hG_large
  by_cases hne : a0 = 962
  · have e : r = 963 := by rw [← h']; unfold text_small.v; rw [if_pos hne]
    have b0 : (a0 == 962) = true := beq_iff_eq.mpr hne
    clear hne h'
    go_enter Tryd.func30, Tryd.ntmps30
    go_wp2
    go_ret
    exact ⟨by rw [e]; rfl, by repeat (first | exact Drawn0.refl _ | apply Drawn0.step)⟩
  · have b0 : (a0 == 962) = false := beq_eq_false_iff_ne.mpr hne
    have HA := Aside0.mk h'
    have HN := Aside0.mk hne
    clear hne h'
    go_enter Tryd.func30, Tryd.ntmps30
    go_wp2
    go_loopg [3] 7 (fun kq v2 w' => ∃ x2 : Int, v2 = .int .i64 x2 ∧ Aside0 ((kq = 7 ∧ x2 = 0) ∨ (kq = 6 ∧ x2 = 2 ∧ ¬ (65 ≤ a0 ∧ a0 ≤ 90)) ∨ (kq = 5 ∧ x2 = 4 ∧ ¬ (65 ≤ a0 ∧ a0 ≤ 90) ∧ ¬ (192 ≤ a0 ∧ a0 ≤ 214)) ∨ (kq = 4 ∧ x2 = 6 ∧ ¬ (65 ≤ a0 ∧ a0 ≤ 90) ∧ ¬ (192 ≤ a0 ∧ a0 ≤ 214) ∧ ¬ (216 ≤ a0 ∧ a0 ≤ 222)) ∨ (kq = 3 ∧ x2 = 8 ∧ ¬ (65 ≤ a0 ∧ a0 ≤ 90) ∧ ¬ (192 ≤ a0 ∧ a0 ≤ 214) ∧ ¬ (216 ≤ a0 ∧ a0 ≤ 222) ∧ ¬ (913 ≤ a0 ∧ a0 ≤ 929)) ∨ (kq = 2 ∧ x2 = 10 ∧ ¬ (65 ≤ a0 ∧ a0 ≤ 90) ∧ ¬ (192 ≤ a0 ∧ a0 ≤ 214) ∧ ¬ (216 ≤ a0 ∧ a0 ≤ 222) ∧ ¬ (913 ≤ a0 ∧ a0 ≤ 929) ∧ ¬ (931 ≤ a0 ∧ a0 ≤ 937)) ∨ (kq = 1 ∧ x2 = 12 ∧ ¬ (65 ≤ a0 ∧ a0 ≤ 90) ∧ ¬ (192 ≤ a0 ∧ a0 ≤ 214) ∧ ¬ (216 ≤ a0 ∧ a0 ≤ 222) ∧ ¬ (913 ≤ a0 ∧ a0 ≤ 929) ∧ ¬ (931 ≤ a0 ∧ a0 ≤ 937) ∧ ¬ (1040 ≤ a0 ∧ a0 ≤ 1071))) ∧ Drawn0 w w')
    case atStart => exact ⟨0, (by first | rfl | (simp; done) | (simp [*]; done)), ⟨.inl ⟨rfl, rfl⟩⟩, by repeat (first | exact Drawn0.refl _ | apply Drawn0.step)⟩
    case round =>
      try clear p2
      obtain ⟨x2, rfl, HX, ⟨m1, rfl⟩⟩ := hrel
      have HX' := HX.out
      clear HX
      rcases HX' with ⟨rfl, rfl⟩ | ⟨rfl, rfl, hn⟩ | ⟨rfl, rfl, hn⟩ | ⟨rfl, rfl, hn⟩ | ⟨rfl, rfl, hn⟩ | ⟨rfl, rfl, hn⟩ | ⟨rfl, rfl, hn⟩
      · skip
        by_cases d1 : 65 ≤ a0
        · by_cases d2 : a0 ≤ 90
          · have e : r = wrap32 (a0 + 32) := by rw [← HA.out]; exact text_small.hit 65 90 (by omega) d1 d2 HN.out
            replace d1 : decide (65 ≤ a0) = true := decide_eq_true d1
            replace d2 : decide (a0 ≤ 90) = true := decide_eq_true d2
            have E := Aside0.mk e; clear e
            go_wp2
            go_ret
            exact ⟨by rw [E.out]; rfl, by repeat (first | exact Drawn0.refl _ | apply Drawn0.step)⟩
          · have N := Aside0.mk d2
            replace d1 : decide (65 ≤ a0) = true := decide_eq_true d1
            replace d2 : decide (a0 ≤ 90) = false := decide_eq_false d2
            go_wp2
            go_roundg 6
            case measure => omega
            case rel => exact ⟨2, (by first | rfl | (simp; done) | (simp [*]; done)), ⟨by have := N.out; omega⟩, by repeat (first | exact Drawn0.refl _ | apply Drawn0.step)⟩
        · have N := Aside0.mk d1
          replace d1 : decide (65 ≤ a0) = false := decide_eq_false d1
          go_wp2
          go_roundg 6
          case measure => omega
          case rel => exact ⟨2, (by first | rfl | (simp; done) | (simp [*]; done)), ⟨by have := N.out; omega⟩, by repeat (first | exact Drawn0.refl _ | apply Drawn0.step)⟩
      · have HO := Aside0.mk hn; clear hn
        by_cases d1 : 192 ≤ a0
        · by_cases d2 : a0 ≤ 214
          · have e : r = wrap32 (a0 + 32) := by rw [← HA.out]; exact text_small.hit 192 214 (by omega) d1 d2 HN.out
            replace d1 : decide (192 ≤ a0) = true := decide_eq_true d1
            replace d2 : decide (a0 ≤ 214) = true := decide_eq_true d2
            have E := Aside0.mk e; clear e
            go_wp2
            go_ret
            exact ⟨by rw [E.out]; rfl, by repeat (first | exact Drawn0.refl _ | apply Drawn0.step)⟩
          · have N := Aside0.mk d2
            replace d1 : decide (192 ≤ a0) = true := decide_eq_true d1
            replace d2 : decide (a0 ≤ 214) = false := decide_eq_false d2
            go_wp2
            go_roundg 5
            case measure => omega
            case rel => exact ⟨4, (by first | rfl | (simp; done) | (simp [*]; done)), ⟨by have := N.out; have := HO.out; omega⟩, by repeat (first | exact Drawn0.refl _ | apply Drawn0.step)⟩
        · have N := Aside0.mk d1
          replace d1 : decide (192 ≤ a0) = false := decide_eq_false d1
          go_wp2
          go_roundg 5
          case measure => omega
          case rel => exact ⟨4, (by first | rfl | (simp; done) | (simp [*]; done)), ⟨by have := N.out; have := HO.out; omega⟩, by repeat (first | exact Drawn0.refl _ | apply Drawn0.step)⟩
      · have HO := Aside0.mk hn; clear hn
        by_cases d1 : 216 ≤ a0
        · by_cases d2 : a0 ≤ 222
          · have e : r = wrap32 (a0 + 32) := by rw [← HA.out]; exact text_small.hit 216 222 (by omega) d1 d2 HN.out
            replace d1 : decide (216 ≤ a0) = true := decide_eq_true d1
            replace d2 : decide (a0 ≤ 222) = true := decide_eq_true d2
            have E := Aside0.mk e; clear e
            go_wp2
            go_ret
            exact ⟨by rw [E.out]; rfl, by repeat (first | exact Drawn0.refl _ | apply Drawn0.step)⟩
          · have N := Aside0.mk d2
            replace d1 : decide (216 ≤ a0) = true := decide_eq_true d1
            replace d2 : decide (a0 ≤ 222) = false := decide_eq_false d2
            go_wp2
            go_roundg 4
            case measure => omega
            case rel => exact ⟨6, (by first | rfl | (simp; done) | (simp [*]; done)), ⟨by have := N.out; have := HO.out; omega⟩, by repeat (first | exact Drawn0.refl _ | apply Drawn0.step)⟩
        · have N := Aside0.mk d1
          replace d1 : decide (216 ≤ a0) = false := decide_eq_false d1
          go_wp2
          go_roundg 4
          case measure => omega
          case rel => exact ⟨6, (by first | rfl | (simp; done) | (simp [*]; done)), ⟨by have := N.out; have := HO.out; omega⟩, by repeat (first | exact Drawn0.refl _ | apply Drawn0.step)⟩
      · have HO := Aside0.mk hn; clear hn
        by_cases d1 : 913 ≤ a0
        · by_cases d2 : a0 ≤ 929
          · have e : r = wrap32 (a0 + 32) := by rw [← HA.out]; exact text_small.hit 913 929 (by omega) d1 d2 HN.out
            replace d1 : decide (913 ≤ a0) = true := decide_eq_true d1
            replace d2 : decide (a0 ≤ 929) = true := decide_eq_true d2
            have E := Aside0.mk e; clear e
            go_wp2
            go_ret
            exact ⟨by rw [E.out]; rfl, by repeat (first | exact Drawn0.refl _ | apply Drawn0.step)⟩
          · have N := Aside0.mk d2
            replace d1 : decide (913 ≤ a0) = true := decide_eq_true d1
            replace d2 : decide (a0 ≤ 929) = false := decide_eq_false d2
            go_wp2
            go_roundg 3
            case measure => omega
            case rel => exact ⟨8, (by first | rfl | (simp; done) | (simp [*]; done)), ⟨by have := N.out; have := HO.out; omega⟩, by repeat (first | exact Drawn0.refl _ | apply Drawn0.step)⟩
        · have N := Aside0.mk d1
          replace d1 : decide (913 ≤ a0) = false := decide_eq_false d1
          go_wp2
          go_roundg 3
          case measure => omega
          case rel => exact ⟨8, (by first | rfl | (simp; done) | (simp [*]; done)), ⟨by have := N.out; have := HO.out; omega⟩, by repeat (first | exact Drawn0.refl _ | apply Drawn0.step)⟩
      · have HO := Aside0.mk hn; clear hn
        by_cases d1 : 931 ≤ a0
        · by_cases d2 : a0 ≤ 937
          · have e : r = wrap32 (a0 + 32) := by rw [← HA.out]; exact text_small.hit 931 937 (by omega) d1 d2 HN.out
            replace d1 : decide (931 ≤ a0) = true := decide_eq_true d1
            replace d2 : decide (a0 ≤ 937) = true := decide_eq_true d2
            have E := Aside0.mk e; clear e
            go_wp2
            go_ret
            exact ⟨by rw [E.out]; rfl, by repeat (first | exact Drawn0.refl _ | apply Drawn0.step)⟩
          · have N := Aside0.mk d2
            replace d1 : decide (931 ≤ a0) = true := decide_eq_true d1
            replace d2 : decide (a0 ≤ 937) = false := decide_eq_false d2
            go_wp2
            go_roundg 2
            case measure => omega
            case rel => exact ⟨10, (by first | rfl | (simp; done) | (simp [*]; done)), ⟨by have := N.out; have := HO.out; omega⟩, by repeat (first | exact Drawn0.refl _ | apply Drawn0.step)⟩
        · have N := Aside0.mk d1
          replace d1 : decide (931 ≤ a0) = false := decide_eq_false d1
          go_wp2
          go_roundg 2
          case measure => omega
          case rel => exact ⟨10, (by first | rfl | (simp; done) | (simp [*]; done)), ⟨by have := N.out; have := HO.out; omega⟩, by repeat (first | exact Drawn0.refl _ | apply Drawn0.step)⟩
      · have HO := Aside0.mk hn; clear hn
        by_cases d1 : 1040 ≤ a0
        · by_cases d2 : a0 ≤ 1071
          · have e : r = wrap32 (a0 + 32) := by rw [← HA.out]; exact text_small.hit 1040 1071 (by omega) d1 d2 HN.out
            replace d1 : decide (1040 ≤ a0) = true := decide_eq_true d1
            replace d2 : decide (a0 ≤ 1071) = true := decide_eq_true d2
            have E := Aside0.mk e; clear e
            go_wp2
            go_ret
            exact ⟨by rw [E.out]; rfl, by repeat (first | exact Drawn0.refl _ | apply Drawn0.step)⟩
          · have N := Aside0.mk d2
            replace d1 : decide (1040 ≤ a0) = true := decide_eq_true d1
            replace d2 : decide (a0 ≤ 1071) = false := decide_eq_false d2
            go_wp2
            go_roundg 1
            case measure => omega
            case rel => exact ⟨12, (by first | rfl | (simp; done) | (simp [*]; done)), ⟨by have := N.out; have := HO.out; omega⟩, by repeat (first | exact Drawn0.refl _ | apply Drawn0.step)⟩
        · have N := Aside0.mk d1
          replace d1 : decide (1040 ≤ a0) = false := decide_eq_false d1
          go_wp2
          go_roundg 1
          case measure => omega
          case rel => exact ⟨12, (by first | rfl | (simp; done) | (simp [*]; done)), ⟨by have := N.out; have := HO.out; omega⟩, by repeat (first | exact Drawn0.refl _ | apply Drawn0.step)⟩
      · have e : r = a0 := by
          have := HN.out
          rw [← HA.out]; unfold text_small.v; rw [if_neg this, if_neg (by omega)]
        clear hn
        have E := Aside0.mk e; clear e
        go_wp2
        go_ret
        exact ⟨by rw [E.out]; rfl, by repeat (first | exact Drawn0.refl _ | apply Drawn0.step)⟩

end Go.Proofs.YtplhcnlpfoiieaaDoor.P
