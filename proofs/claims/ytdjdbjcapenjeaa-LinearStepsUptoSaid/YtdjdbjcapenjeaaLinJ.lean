/- LinearSteps answers true: in the words of the arguments' reading. -/
import Derived.Test.YtdjdbjcapenjeaaLinI
import Derived.Test.YtdjdbjcapenjeaaXRead
namespace Go.Proofs.Ytdjdbjcapenjeaa.P
open Go.RowKit Go.Proofs.YtdjdbjcapenjeaaW.PrintWords Go.Proofs.YtdjdbjcapenjeaaW.PrintLast Go.Proofs.YtdjdbjcapenjeaaW.PrintMore
set_option linter.unusedVariables false
set_option linter.unusedSimpArgs false
theorem wf_u8 {x : Int} (h : (Lit.int .u8 x).wf = true) : 0 ≤ x ∧ x ≤ 255 := by
  simp [Lit.wf] at h
  have h1 : IntKind.u8.min = 0 := by decide
  have h2 : IntKind.u8.max = 255 := by decide
  omega
theorem isB_of {l : List Int} (h : ∀ x ∈ l, (Lit.int .u8 x).wf = true) : isB l := fun x hx => wf_u8 (h x hx)
/-- What a call's reading tells of its parts. -/
def CallWf (c : S30) : Prop := (Lit.int .u8 c.f0).wf = true ∧ (Lit.int .u64 c.f1).wf = true ∧ ((Lit.int .u8 c.f2.f0).wf = true ∧ (Lit.int .u64 c.f2.f1).wf = true ∧ (Lit.int .u64 c.f2.f2).wf = true ∧ (∀ x ∈ c.f2.f3, (Lit.int .u8 x).wf = true) ∧ (∀ x ∈ c.f2.f4, (Lit.int .u8 x).wf = true) ∧ True ∧ (Lit.int .u8 c.f2.f6).wf = true) ∧ (Lit.int .u8 c.f3).wf = true ∧ (∀ x ∈ c.f4, (Lit.int .u8 x).wf = true) ∧ (Lit.int .i64 c.f5).wf = true ∧ (Lit.int .i64 c.f6).wf = true
/-- Its bulk. -/
def callSz (c : S30) : Nat := (1 + (1 + (((1 + (1 + (1 + (((c.f2.f3.map fun _ => 1).sum + 1) + (((c.f2.f4.map fun _ => 1).sum + 1) + (1 + 1)))))) + 1) + (1 + (((c.f4.map fun _ => 1).sum + 1) + (1 + 1)))))) + 1
theorem callSz_le (c : S30) : c.f2.f3.length ≤ callSz c ∧ c.f2.f4.length ≤ callSz c ∧ c.f4.length ≤ callSz c := by
  unfold callSz
  rw [reads.sum_one, reads.sum_one, reads.sum_one]
  omega
theorem LinearSteps_law (c : S30) (cs : Array Value) (xh : Bool) (Av : Option Addr) (cv : Nat) (lv : List Int) (w : World) (hK : k30.K w c cs.toList) (hw : CallWf c) (hz : callSz c ≤ 1048576)
    (hr : Kd.C (Kd.int .u8) w Av lv.length lv) (hc : lv.length ≤ cv) (hwl : ∀ x ∈ lv, (Lit.int .u8 x).wf = true) (hl : lv.length ≤ 1048576) :
    Calls Try.prog 3 #[.agg cs, .bool xh, .slice Av lv.length cv] w fun e w' => e = .returned (.bool true) ∧ Below w.heap.size w w' := by
  obtain ⟨A5, c5, A6, c6, A10, c10, hcs, l5, g5, l6, g6, l10, g10⟩ := k30_open hK
  obtain rfl : cs = #[.int .u8 c.f0, .int .u64 c.f1, .int .u8 c.f2.f0, .int .u64 c.f2.f1, .int .u64 c.f2.f2, .slice A5 c.f2.f3.length c5, .slice A6 c.f2.f4.length c6, .bool c.f2.f5, .int .u8 c.f2.f6, .int .u8 c.f3, .slice A10 c.f4.length c10, .int .i64 c.f5, .int .i64 c.f6] := by rw [← Array.toList_inj, hcs]
  obtain ⟨q1, q2, q3⟩ := callSz_le c
  obtain ⟨_, _, ⟨_, _, _, _, w4, _, _⟩, w9, w10, _, _⟩ := hw
  exact LinearSteps_calls c A5 c5 A6 c6 A10 c10 xh Av cv lv w ⟨l5, g5⟩ ⟨l6, g6⟩ ⟨l10, g10⟩ ⟨hc, hr⟩ (by omega) (by omega) (by omega) (by omega) (wf_u8 w9).1 (wf_u8 w9).2 (isB_of hwl) (isB_of w10) (isB_of w4)
end Go.Proofs.Ytdjdbjcapenjeaa.P
