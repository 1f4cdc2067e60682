-- Written by printx.py (this work's driver over the kit's print) out of the translation; Lean checks it.
import Derived.Test.YtplhcnlpfoiieaaDoorShelf
import Derived.Test.YtplhcnlpfoiieaaDoorXUtf
import Derived.Test.YtplhcnlpfoiieaaDoorPx0
namespace Go.Proofs.YtplhcnlpfoiieaaDoor.P
open Go.RowKit Go.Proofs.YtplhcnlpfoiieaaDoorW.PrintWords Go.Proofs.YtplhcnlpfoiieaaDoorW.PrintLast Go.Proofs.YtplhcnlpfoiieaaDoorW.PrintMore
attribute [local go_sem] max2_int min2_int max_two min_two max_three min_three max_four min_four   -- for this text's walks alone
set_option linter.unusedVariables false
set_option linter.unusedSimpArgs false

/-! ### utf8_DecodeRuneInString: function 71 -/
-- GIVEN
/-- The decoder's two tables. -/
def glob_utf8 (w : World) : Prop := Lib.Utf8Tabs 2 3 w
theorem glob_utf8.below {w w' : World} (h : glob_utf8 w) (hb : Below w.heap.size w w') : glob_utf8 w' := Utf8Tabs_below h hb
def utf8_DecodeRuneInString.f (a0 : ByteArray) : Option (Int × Int) := some (if a0.size = 0 then (65533, 0) else if U.usz a0 0 = 0 then (65533, 1) else ((U.uval a0 0 (U.usz a0 0) : Nat), (U.usz a0 0 : Nat)))
theorem utf8_DecodeRuneInString.calls (a0 : ByteArray) (r1 r2 : Int) (w : World) (hG_utf8 : glob_utf8 w) (h : utf8_DecodeRuneInString.f a0 = some (r1, r2)) :
    Calls Tryd.prog 71 #[.string a0] w fun e w' => e = .returned (.tuple #[.int .i32 r1, .int .i64 r2]) ∧ Below w.heap.size w w' := by
  have hh := Tryd.utf8_DecodeRuneInString a0 w hG_utf8
  have e : (((Lib.decodeGo a0).1 : Int), ((Lib.decodeGo a0).2 : Int)) = (r1, r2) := by
    unfold utf8_DecodeRuneInString.f at h
    rw [← Option.some.inj h]
    unfold Lib.decodeGo
    by_cases h0 : a0.size = 0
    · rw [if_pos h0, if_pos h0]; rfl
    · rw [if_neg h0, if_neg h0, U.decode_eq a0 0 (by omega)]
      split <;> rfl
  simp only [Prod.mk.injEq] at e
  rw [e.1, e.2] at hh
  exact hh

end Go.Proofs.YtplhcnlpfoiieaaDoor.P
