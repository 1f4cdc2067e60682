/- What linear.play answers (walked by hand, case by case). -/
import Derived.Test.YtdjdbjcapenjeaaLinA
import Derived.Test.YtdjdbjcapenjeaaPx5
namespace Go.Proofs.Ytdjdbjcapenjeaa.P
open Go.RowKit Go.Proofs.YtdjdbjcapenjeaaW.PrintWords Go.Proofs.YtdjdbjcapenjeaaW.PrintLast Go.Proofs.YtdjdbjcapenjeaaW.PrintMore
set_option linter.unusedVariables false
set_option linter.unusedSimpArgs false
def playV (c : S30) (h : Bool) (l : List Int) : (Bool × List Int) × Bool :=
  if c.f2.f0 == 1 then (if (c.f6 != -1) && (((c.f3 == 1 || !(c.f6 != -1)) != h) || ((c.f3 == 1 || !(c.f6 != -1)) && !(h && eqB l c.f4))) then ((false, []), false) else ((h, l), true))
  else if c.f2.f0 == 2 then (if c.f3 == 1 || !(c.f6 != -1) then ((true, c.f2.f3), true) else ((h, l), !h))
  else if c.f2.f0 == 3 then ((false, []), !(c.f6 != -1) || ((c.f3 == 1 || !(c.f6 != -1)) == h))
  else if c.f2.f0 == 4 then (if (c.f3 == 1 || !(c.f6 != -1)) && expectedV c.f2.f5 c.f2.f4 h l then ((true, c.f2.f3), true) else if !(c.f6 != -1) then ((h, l), true) else if c.f3 == 3 then ((h, l), !(expectedV c.f2.f5 c.f2.f4 h l)) else ((h, l), c.f3 == 4 && !h))
  else ((false, []), false)
/-- The cells of a call, at an address. -/
def PtCall (w : World) (b o : Nat) (c : S30) (A5 : Option Addr) (c5 : Nat) (A6 : Option Addr) (c6 : Nat) (A10 : Option Addr) (c10 : Nat) : Prop :=
  w.cell? ⟨b, o, none⟩ = some (.int .u8 c.f0) ∧ w.cell? ⟨b, o + 1, none⟩ = some (.int .u64 c.f1) ∧ w.cell? ⟨b, o + 2, none⟩ = some (.int .u8 c.f2.f0) ∧ w.cell? ⟨b, o + 3, none⟩ = some (.int .u64 c.f2.f1) ∧ w.cell? ⟨b, o + 4, none⟩ = some (.int .u64 c.f2.f2) ∧ w.cell? ⟨b, o + 5, none⟩ = some (.slice A5 c.f2.f3.length c5) ∧ w.cell? ⟨b, o + 6, none⟩ = some (.slice A6 c.f2.f4.length c6) ∧ w.cell? ⟨b, o + 7, none⟩ = some (.bool c.f2.f5) ∧ w.cell? ⟨b, o + 8, none⟩ = some (.int .u8 c.f2.f6) ∧ w.cell? ⟨b, o + 9, none⟩ = some (.int .u8 c.f3) ∧ w.cell? ⟨b, o + 10, none⟩ = some (.slice A10 c.f4.length c10) ∧ w.cell? ⟨b, o + 11, none⟩ = some (.int .i64 c.f5) ∧ w.cell? ⟨b, o + 12, none⟩ = some (.int .i64 c.f6) ∧
  (c.f2.f3.length ≤ c5 ∧ Kd.C (Kd.int .u8) w A5 c.f2.f3.length c.f2.f3) ∧ (c.f2.f4.length ≤ c6 ∧ Kd.C (Kd.int .u8) w A6 c.f2.f4.length c.f2.f4) ∧ (c.f4.length ≤ c10 ∧ Kd.C (Kd.int .u8) w A10 c.f4.length c.f4)
theorem known_calls (c : S30) (kn : Bool) (A5 : Option Addr) (c5 : Nat) (A6 : Option Addr) (c6 : Nat) (A10 : Option Addr) (c10 : Nat) (w : World) (hk : (c.f6 != -1) = kn)
    (g5 : c.f2.f3.length ≤ c5 ∧ Kd.C (Kd.int .u8) w A5 c.f2.f3.length c.f2.f3) (g6 : c.f2.f4.length ≤ c6 ∧ Kd.C (Kd.int .u8) w A6 c.f2.f4.length c.f2.f4) (g10 : c.f4.length ≤ c10 ∧ Kd.C (Kd.int .u8) w A10 c.f4.length c.f4) :
    Calls Try.prog 41 #[.agg #[.int .u8 c.f0, .int .u64 c.f1, .int .u8 c.f2.f0, .int .u64 c.f2.f1, .int .u64 c.f2.f2, .slice A5 c.f2.f3.length c5, .slice A6 c.f2.f4.length c6, .bool c.f2.f5, .int .u8 c.f2.f6, .int .u8 c.f3, .slice A10 c.f4.length c10, .int .i64 c.f5, .int .i64 c.f6]] w fun e w' => e = .returned (.bool kn) ∧ Below w.heap.size w w' :=
  linear_known.calls c.f0 c.f1 c.f2.f0 c.f2.f1 c.f2.f2 A5 c5 c.f2.f3 A6 c6 c.f2.f4 c.f2.f5 c.f2.f6 c.f3 A10 c10 c.f4 c.f5 c.f6 kn w g5.2 g5.1 g6.2 g6.1 g10.2 g10.1 (by unfold linear_known.f; rw [hk])
theorem lC {w w' : World} {A : Option Addr} {n c : Nat} {l : List Int} (h : n ≤ c ∧ Kd.C (Kd.int .u8) w A n l) (hb : Below w.heap.size w w') : n ≤ c ∧ Kd.C (Kd.int .u8) w' A n l := ⟨h.1, Kd.C_below h.2 hb⟩
theorem lR {w w' : World} {A : Option Addr} {c : Nat} {l : List Int} (h : l.length ≤ c ∧ Kd.C (Kd.int .u8) w A l.length l) (hb : Below w.heap.size w w') : RdB w' (.slice A l.length c) l := ⟨A, c, rfl, h.1, Kd.C_below h.2 hb⟩
end Go.Proofs.Ytdjdbjcapenjeaa.P
