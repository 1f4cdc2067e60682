/- the law LinearObeys -/
import Derived.Test.YtdjdbjcapenjeaaDxTab
import Derived.Test.YtdjdbjcapenjeaaDx3
import Derived.Test.YtdjdbjcapenjeaaDxTy
import Derived.Test.YtdjdbjcapenjeaaPObeys
import Derived.Test.YtdjdbjcapenjeaaC
import Derived.Test.YtdjdbjcapenjeaaB
import Derived.Test.YtdjdbjcapenjeaaE
import Derived.Test.YtdjdbjcapenjeaaG
set_option linter.unusedVariables false
set_option maxRecDepth 100000
open Go Go.Proofs Go.Proofs.Ytdjdbjcapenjeaa.Dx Go.Proofs.Ytdjdbjcapenjeaa.Dx.TYtdjdbjcapenjeaa
namespace Go.Proofs.Ytdjdbjcapenjeaa.H
namespace F5
noncomputable def purs : List (Nat × (List Ty × (List AV → PV))) := [(9, (Go.Proofs.Ytdjdbjcapenjeaa.C.F9.ts, Go.Proofs.Ytdjdbjcapenjeaa.C.F9.G)), (13, (Go.Proofs.Ytdjdbjcapenjeaa.C.F13.ts, Go.Proofs.Ytdjdbjcapenjeaa.C.F13.G)), (17, (Go.Proofs.Ytdjdbjcapenjeaa.B.F17.ts, Go.Proofs.Ytdjdbjcapenjeaa.B.F17.G)), (18, (Go.Proofs.Ytdjdbjcapenjeaa.E.F18.ts, Go.Proofs.Ytdjdbjcapenjeaa.E.F18.G)), (19, (Go.Proofs.Ytdjdbjcapenjeaa.G.F19.ts, Go.Proofs.Ytdjdbjcapenjeaa.G.F19.G))]
noncomputable def callF (g : FuncId) : CF := fun _ _ _ => False
noncomputable def loops : List (Nat × (List Nat × (K → Nat → St → Prop))) := []
noncomputable def C : Ctx := { ti := ti, meth := meth, can := can, pur := purOf purs, loops := fun i => seek loops i, gh := fun _ => [], rk := some ([4], 0) }
noncomputable def Main (calls : (List D30)) (order : (List Int)) (k : AV → Prop) : Prop :=
  (bif decide ((↑calls.length : Int) > (400 : Int)) then k (.v .bool (true)) else (bif decide ((↑order.length : Int) > (400 : Int)) then k (.v .bool (true)) else ((calls.length ≤ LB) ∧ ((∀ (c : T30.D), c ∈ calls → C.F9.LC c) ∧ ((order.length ≤ (8796093022208 : Nat)) ∧ (((0 : Nat) + order.length ≤ order.length) ∧ ((calls.length ≤ LB) ∧ (((List.take order.length order).length ≤ LB) ∧ ((calls.length ≤ LB) ∧ ((order.length ≤ LB) ∧ ((∀ (c : T30.D), c ∈ calls → C.F9.LC c) ∧ (bif E.F18.val calls (List.take order.length order) == G.F19.val calls order then ((calls = calls) ∧ ((calls.length ≤ LB) ∧ ((∀ (c : T30.D), c ∈ calls → C.F9.LC c) ∧ (((0 : Nat) + order.length ≤ order.length) ∧ (((List.take order.length order).length ≤ LB) ∧ k (.v .bool (B.F17.val (List.take order.length order) order))))))) else k (.v .bool (false))))))))))))))
theorem main (calls : (List D30)) (order : (List Int)) (k : AV → Prop) : (runFn C callF Try.f5 [.v (.sl (.pair (.int .u8) (.pair (.int .u64) (.pair (.pair (.int .u8) (.pair (.int .u64) (.pair (.int .u64) (.pair (.sl (.int .u8)) (.pair (.sl (.int .u8)) (.pair .bool (.pair (.int .u8) .unit))))))) (.pair (.int .u8) (.pair (.sl (.int .u8)) (.pair (.int .i64) (.pair (.int .i64) .unit)))))))) calls, .v (.sl (.int .i64)) order] [] (fun r H => coRes H [.bool] r k)) = Main calls order k := by kernel_rfl
theorem spec (cs : List D30) (o : List Int) (k : AV → Prop) (h : AllP [cs.length ≤ LB, o.length ≤ LB, ∀ c ∈ cs, C.F9.LC c, ∀ c ∈ cs, PObeys.CB c]) (hk : k (.v .bool true)) : Main cs o k := by
  obtain ⟨hc, ho, hl, hb, _⟩ := h
  refine bif_i (fun _ => hk) (fun _ => bif_i (fun _ => hk) (fun _ => ⟨hc, hl, Nat.le_trans ho (by decide), by omega, hc, ?_, hc, ho, hl, bif_i (fun _ => ⟨rfl, hc, hl, by omega, ?_, ?_⟩) (fun e => ?_)⟩))
  · rw [List.take_length]; exact ho
  · rw [List.take_length]; exact ho
  · rw [List.take_length, show B.F17.val o o = true by simp [B.F17.val]]; exact hk
  · rw [List.take_length, PObeys.obeys_eq cs o hb, beq_self_eq_true] at e; cases e
noncomputable def ts : List Ty := [(.sl T30), (.sl (.int .i64))]
noncomputable def G : List AV → PV := pg2 (.sl T30) (.sl (.int .i64)) (fun calls order => [calls.length ≤ LB, order.length ≤ LB, ∀ c ∈ calls, C.F9.LC c, ∀ c ∈ calls, PObeys.CB c]) (fun calls order => .v .bool true)
theorem loopsOK : LoopsOK C callF (bodyOf Try.f5) := loopsOK_seek (tbl := loops) (fun _ => rfl) (by kernel_rfl) (fun _ h => nomatch h)
theorem pursOK : ∀ g ts F, C.pur g = some (ts, F) → SoundP Try.prog g F := purOf_ok (l := purs) (List.forall_mem_cons.2 ⟨Go.Proofs.Ytdjdbjcapenjeaa.C.F9.ok, List.forall_mem_cons.2 ⟨Go.Proofs.Ytdjdbjcapenjeaa.C.F13.ok, List.forall_mem_cons.2 ⟨Go.Proofs.Ytdjdbjcapenjeaa.B.F17.ok, List.forall_mem_cons.2 ⟨Go.Proofs.Ytdjdbjcapenjeaa.E.F18.ok, List.forall_mem_cons.2 ⟨Go.Proofs.Ytdjdbjcapenjeaa.G.F19.ok, fun _ h => nomatch h⟩⟩⟩⟩⟩)
theorem cfsOK : ∀ g, SoundF Try.prog g (callF g) := fun g => soundF_none g
theorem ok : SoundP Try.prog 5 G := by
  unfold G
  refine soundP_pg2 (soundF_run (C := C) (callF := callF) (tabOK C rfl rfl rfl) cfsOK pursOK Try.func5 (by kernel_rfl) loopsOK) [.bool] fun calls order h => ?_
  rw [main]
  exact spec calls order _ h rfl
end F5

end Go.Proofs.Ytdjdbjcapenjeaa.H
