-- Written by printx.py (this work's driver over the kit's print) out of the translation; Lean checks it.
import Derived.Below
import Derived.Laws.World
import Derived.Test.YtipgpcpolobjiaaDoorPx0
namespace Go.Proofs.YtipgpcpolobjiaaDoor.P
open Go.RowKit Go.Proofs.YtipgpcpolobjiaaDoorW.PrintWords Go.Proofs.YtipgpcpolobjiaaDoorW.PrintLast Go.Proofs.YtipgpcpolobjiaaDoorW.PrintMore
attribute [local go_sem] max2_int min2_int max_two min_two max_three min_three max_four min_four   -- for this text's walks alone
set_option linter.unusedVariables false
set_option linter.unusedSimpArgs false

/-! ### shardref3_KindName: function 7 -/
-- GIVEN
/-- The words of the kinds. -/
def wordAt : Nat → ByteArray
  | 0 => (⟨#[]⟩ : ByteArray)
  | 1 => (⟨#[103, 101, 116]⟩ : ByteArray)
  | 2 => (⟨#[115, 101, 116]⟩ : ByteArray)
  | 3 => (⟨#[100, 101, 108, 101, 116, 101]⟩ : ByteArray)
  | 4 => (⟨#[99, 97, 115]⟩ : ByteArray)
  | 5 => (⟨#[115, 99, 97, 110]⟩ : ByteArray)
  | 6 => (⟨#[114, 101, 112, 108, 121]⟩ : ByteArray)
  | 7 => (⟨#[114, 101, 100, 105, 114, 101, 99, 116]⟩ : ByteArray)
  | 8 => (⟨#[115, 104, 97, 114, 100]⟩ : ByteArray)
  | 9 => (⟨#[100, 111, 110, 101]⟩ : ByteArray)
  | 10 => (⟨#[100, 97, 116, 97]⟩ : ByteArray)
  | 11 => (⟨#[97, 99, 107]⟩ : ByteArray)
  | 12 => (⟨#[100, 101, 108, 101, 103, 97, 116, 101]⟩ : ByteArray)
  | _ => (⟨#[]⟩ : ByteArray)
def glob_words (w : World) : Prop := 0 < w.heap.size ∧ ∀ i, i < 13 → w.cell? ⟨0, i, none⟩ = some (.string (wordAt i))
theorem glob_words.below {w w' : World} (h : glob_words w) (hb : Below w.heap.size w w') : glob_words w' := by
  refine ⟨Nat.lt_of_lt_of_le h.1 hb.size, fun i hi => ?_⟩
  rw [← h.2 i hi]
  exact hb.cell (p := ⟨0, i, none⟩) h.1
def shardref3_KindName.f (a0 : Int) : Option (ByteArray) := if a0 < 1 then some (⟨#[]⟩ : ByteArray) else if 12 < a0 then some (⟨#[]⟩ : ByteArray) else some (wordAt a0.toNat)
set_option maxHeartbeats 8000000 in
set_option maxRecDepth 100000 in
theorem shardref3_KindName.calls (a0 : Int) (r : ByteArray) (w : World) (hG_words : glob_words w) (h : shardref3_KindName.f a0 = some r) :
    Calls Tryd.prog 7 #[.int .i64 a0] w fun e w' => e = .returned (.string r) ∧ Drawn0 w w' := by
  unfold shardref3_KindName.f at h
  by_cases h1 : a0 < 1
  · rw [if_pos h1] at h
    obtain rfl := Option.some.inj h
    have b0 : decide (a0 < 1) = true := decide_eq_true h1
    clear h h1 hG_words
    go_enter Tryd.func7, Tryd.ntmps7
    go_wp2
    go_ret
    exact ⟨by first | rfl | (simp; done), by repeat (first | exact Drawn0.refl _ | apply Drawn0.step)⟩
  · rw [if_neg h1] at h
    by_cases h2 : 12 < a0
    · rw [if_pos h2] at h
      obtain rfl := Option.some.inj h
      have b0 : decide (a0 < 1) = false := decide_eq_false h1
      have b1 : decide (12 < a0) = true := decide_eq_true h2
      clear h h1 h2 hG_words
      go_enter Tryd.func7, Tryd.ntmps7
      go_wp2
      go_ret
      exact ⟨by first | rfl | (simp; done), by repeat (first | exact Drawn0.refl _ | apply Drawn0.step)⟩
    · rw [if_neg h2] at h
      obtain rfl := Option.some.inj h
      have hc := hG_words.2
      clear h hG_words
      have hk : a0 = 1 ∨ a0 = 2 ∨ a0 = 3 ∨ a0 = 4 ∨ a0 = 5 ∨ a0 = 6 ∨ a0 = 7 ∨ a0 = 8 ∨ a0 = 9 ∨ a0 = 10 ∨ a0 = 11 ∨ a0 = 12 := by omega
      clear h1 h2
      rcases hk with rfl | rfl | rfl | rfl | rfl | rfl | rfl | rfl | rfl | rfl | rfl | rfl
      · have c := hc 1 (by decide)
        clear hc
        go_enter Tryd.func7, Tryd.ntmps7
        go_wp2
        go_ret
        exact ⟨by first | rfl | (simp; done), by repeat (first | exact Drawn0.refl _ | apply Drawn0.step)⟩
      · have c := hc 2 (by decide)
        clear hc
        go_enter Tryd.func7, Tryd.ntmps7
        go_wp2
        go_ret
        exact ⟨by first | rfl | (simp; done), by repeat (first | exact Drawn0.refl _ | apply Drawn0.step)⟩
      · have c := hc 3 (by decide)
        clear hc
        go_enter Tryd.func7, Tryd.ntmps7
        go_wp2
        go_ret
        exact ⟨by first | rfl | (simp; done), by repeat (first | exact Drawn0.refl _ | apply Drawn0.step)⟩
      · have c := hc 4 (by decide)
        clear hc
        go_enter Tryd.func7, Tryd.ntmps7
        go_wp2
        go_ret
        exact ⟨by first | rfl | (simp; done), by repeat (first | exact Drawn0.refl _ | apply Drawn0.step)⟩
      · have c := hc 5 (by decide)
        clear hc
        go_enter Tryd.func7, Tryd.ntmps7
        go_wp2
        go_ret
        exact ⟨by first | rfl | (simp; done), by repeat (first | exact Drawn0.refl _ | apply Drawn0.step)⟩
      · have c := hc 6 (by decide)
        clear hc
        go_enter Tryd.func7, Tryd.ntmps7
        go_wp2
        go_ret
        exact ⟨by first | rfl | (simp; done), by repeat (first | exact Drawn0.refl _ | apply Drawn0.step)⟩
      · have c := hc 7 (by decide)
        clear hc
        go_enter Tryd.func7, Tryd.ntmps7
        go_wp2
        go_ret
        exact ⟨by first | rfl | (simp; done), by repeat (first | exact Drawn0.refl _ | apply Drawn0.step)⟩
      · have c := hc 8 (by decide)
        clear hc
        go_enter Tryd.func7, Tryd.ntmps7
        go_wp2
        go_ret
        exact ⟨by first | rfl | (simp; done), by repeat (first | exact Drawn0.refl _ | apply Drawn0.step)⟩
      · have c := hc 9 (by decide)
        clear hc
        go_enter Tryd.func7, Tryd.ntmps7
        go_wp2
        go_ret
        exact ⟨by first | rfl | (simp; done), by repeat (first | exact Drawn0.refl _ | apply Drawn0.step)⟩
      · have c := hc 10 (by decide)
        clear hc
        go_enter Tryd.func7, Tryd.ntmps7
        go_wp2
        go_ret
        exact ⟨by first | rfl | (simp; done), by repeat (first | exact Drawn0.refl _ | apply Drawn0.step)⟩
      · have c := hc 11 (by decide)
        clear hc
        go_enter Tryd.func7, Tryd.ntmps7
        go_wp2
        go_ret
        exact ⟨by first | rfl | (simp; done), by repeat (first | exact Drawn0.refl _ | apply Drawn0.step)⟩
      · have c := hc 12 (by decide)
        clear hc
        go_enter Tryd.func7, Tryd.ntmps7
        go_wp2
        go_ret
        exact ⟨by first | rfl | (simp; done), by repeat (first | exact Drawn0.refl _ | apply Drawn0.step)⟩

end Go.Proofs.YtipgpcpolobjiaaDoor.P
