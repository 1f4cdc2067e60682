/- shard/shardlaw14.LinearRight: for every input (its values and letters together at most 1048576) the call answers true, and each argument reads afterwards as it read before. -/
import Derived.Test.YtdjdbjcapenjeaaRows
import Derived.Test.YtdjdbjcapenjeaaKR4
import Derived.Test.YtdjdbjcapenjeaaPPreR
import Derived.Test.YtdjdbjcapenjeaaXBulk
import Derived.Test.YtdjdbjcapenjeaaXDx
import Derived.WalkKit
import Derived.ProofKit
import Derived.OpenShut
import Derived.ShutString
import Derived.ChangeOld
import Derived.Below
import Derived.SizedLaws
import Derived.JoinedCond
import Derived.Carry
set_option linter.unusedVariables false
set_option linter.unusedSimpArgs false
namespace Go.Proofs.Ytdjdbjcapenjeaa.linearRight
open Go.ChangeShapes Go.WideShapes Go.ChangeAt Go.RowKit
open Go.ChangeMaps (open_string shut_string)
open Go.Proofs.Ytdjdbjcapenjeaa.Dx (val_int val_bool val_str)
theorem laidOut : laidOutB Try.prog = true := by kernel_rfl
theorem own : ownKnob Try.prog.godebug = none := by kernel_rfl
set_option maxRecDepth 100000 in
theorem contract (H : Type) (enc : TypeId × Value → H) (W : World) (base : Nat) (args : Array Value) (ds gs : List (DataW H)) (before : List MemPlace)
    (hval0 : ∀ (j : Nat) t v, Try.f7.params[j]? = some t → args[j]? = some v → Value.okWide Try.prog W .any base t v)
    (hW : DataW.Whole enc Try.prog Try.f7.params.toList Rows.linearRightSpec.vars false W args.toList ds gs before) (hk : Rows.uptoSmall H (ds ++ gs) = true) :
    Calls Try.prog 7 args W fun e W' => ∃ v, e = .returned v ∧ Rows.linearRightSpec.post enc Try.prog Try.f7 false true false false W args v W' := by
  have hval : ∀ (j : Nat) t v, Try.f7.params[j]? = some t → args[j]? = some v → Value.okWide Try.prog W .any base t v := hval0
  have hW' := hW
  obtain ⟨p, q, hA0, hV, rfl, hfz, hnd⟩ := hW
  have hA : DataW.TrodAll enc Try.prog W 0 (fun _ => true) true Try.f7.params.toList args.toList ds p := hA0
  rw [Try.params7] at hA hval
  obtain ⟨v0, vs0, d0, ds0, p0, q0, hargs, rfl, rfl, h0, r0⟩ := trodAll_cons hA
  obtain ⟨rfl, rfl, rfl⟩ := trodAll_nil r0
  obtain rfl : args = #[v0] := by cases args; simp_all
  obtain ⟨rfl, rfl⟩ := trodVars_none hV
  have bk := bulks.bound hk
  obtain ⟨A0, len0, cap0, rfl⟩ := okWide_slice Try.underlying33 (hval 0 33 v0 rfl rfl)
  have k0 := h0
  have lt0 : ∀ x ∈ p0, x.block < W.heap.size := by obtain ⟨m, hm⟩ := k0; exact DataW.trod_lt m _ _ _ hm
  obtain ⟨a0, hr0, w0, sz0⟩ := readsD.arg (τ := (.sl (.pair (.int .u8) (.pair (.int .u64) (.pair (.pair (.int .u8) (.pair (.int .u64) (.pair (.int .u64) (.pair (.sl (.int .u8)) (.pair (.sl (.int .u8)) (.pair .bool (.pair (.int .u8) .unit))))))) (.pair (.int .u8) (.pair (.sl (.int .u8)) (.pair (.int .i64) (.pair (.int .i64) .unit))))))))) (readsD.Opens.slice Try.underlying33 (by kernel_rfl) (by decide) rfl (readsD.Opens.struct Try.underlying30 rfl (by kernel_rfl) (readsD.Parts.cons rfl (by kernel_rfl) (readsD.Opens.int Try.underlying22) (readsD.Parts.cons rfl (by kernel_rfl) (readsD.Opens.int Try.underlying23) (readsD.Parts.cons rfl (by kernel_rfl) (readsD.Opens.struct Try.underlying27 rfl (by kernel_rfl) (readsD.Parts.cons rfl (by kernel_rfl) (readsD.Opens.int Try.underlying24) (readsD.Parts.cons rfl (by kernel_rfl) (readsD.Opens.int Try.underlying23) (readsD.Parts.cons rfl (by kernel_rfl) (readsD.Opens.int Try.underlying23) (readsD.Parts.cons rfl (by kernel_rfl) (readsD.Opens.slice Try.underlying25 (by kernel_rfl) (by decide) rfl (readsD.Opens.int Try.underlying5)) (readsD.Parts.cons rfl (by kernel_rfl) (readsD.Opens.slice Try.underlying25 (by kernel_rfl) (by decide) rfl (readsD.Opens.int Try.underlying5)) (readsD.Parts.cons rfl (by kernel_rfl) (readsD.Opens.bool Try.underlying4) (readsD.Parts.cons rfl (by kernel_rfl) (readsD.Opens.int Try.underlying5) readsD.Parts.nil)))))))) (readsD.Parts.cons rfl (by kernel_rfl) (readsD.Opens.int Try.underlying28) (readsD.Parts.cons rfl (by kernel_rfl) (readsD.Opens.slice Try.underlying25 (by kernel_rfl) (by decide) rfl (readsD.Opens.int Try.underlying5)) (readsD.Parts.cons rfl (by kernel_rfl) (readsD.Opens.int Try.underlying3) (readsD.Parts.cons rfl (by kernel_rfl) (readsD.Opens.int Try.underlying3) readsD.Parts.nil))))))))) h0 rfl
  have z0 := Nat.le_trans sz0 (Nat.le_trans (bulks.part_le (List.mem_of_getElem? (i := 0) rfl)) bk)
  clear hA0 hval0
  refine (readsD.law_of1 Go.Proofs.Ytdjdbjcapenjeaa.KR4.F7.ok (Go.Proofs.Ytdjdbjcapenjeaa.PPreR.PreLinearRight a0 w0 z0) rfl hr0).mono fun e W' ⟨he, bel⟩ => ?_
  subst he
  exact ⟨_, rfl, _, _, _, [], _, [], hW', trodAll_mk1 (shut_bool Try.underlying4 _), (trodAll_cons_mk (Below.trod laidOut (by kernel_rfl) (of_decide_eq_true (by kernel_rfl)) k0 bel lt0) trodAll_mk0), rfl, bel.frame _, fun h => by cases h⟩
set_option maxRecDepth 100000 in
theorem lifted (os : Os) (started : os.Started) (H : Type) (enc : TypeId × Value → H) (F : Stop.Interp) :
    ReturnsInHanded {} Try.checked os 7 .any ((Rows.OpenSpec.upto Rows.linearRightSpec).pre6 enc Try.prog Try.f7 Rows.linearRightUptoRow.domain false) (((Rows.OpenSpec.upto Rows.linearRightSpec).at F).post enc Try.prog Try.f7 false true false false) := by
  refine returnsInHanded_of_cond (C := Try.checked) (s := Rows.OpenSpec.upto Rows.linearRightSpec) (k := Rows.uptoSmall) rfl own started (by kernel_rfl) Try.func7
    (OpenSpec.witness (enc := enc) (C := Try.checked) (s := Rows.OpenSpec.upto Rows.linearRightSpec) (k := Rows.uptoSmall) rfl false ⟨#[], #[.slice none 0 0], []⟩ 8 (by kernel_rfl) (by kernel_rfl) (by kernel_rfl)
      (x := ([.nil], [], [])) (by kernel_rfl) rfl (by kernel_rfl)) ?_
  intro W base args ds gs before hval hW _ hk _
  exact contract H enc W base args ds gs before hval hW hk
theorem over : Rows.linearRightUptoRow.holds Try.pinned (Rows.OpenSpec.upto Rows.linearRightSpec) :=
  OpenClaim.holds_of_cond 7 Try.f7 rfl rfl rfl rfl rfl rfl rfl ⟨rfl, rfl, rfl, rfl, rfl⟩ rfl rfl rfl rfl rfl (by kernel_rfl) Try.func7 (by kernel_rfl)
    (of_decide_eq_true (by kernel_rfl)) (by unfold Func.isWrapper; first | (rw [if_pos (by decide +kernel)]; kernel_rfl) | (rw [if_neg (by decide +kernel)]; exact ⟨rfl, rfl⟩))
    (fun os started H enc _ F => lifted os started H enc F)
theorem proved : Rows.LinearRightUptoSaid := over
end Go.Proofs.Ytdjdbjcapenjeaa.linearRight
namespace Go.Proofs.Ytdjdbjcapenjeaa
theorem linearRightUpto_holds : Rows.LinearRightUptoSaid := linearRight.proved
#print axioms linearRightUpto_holds
end Go.Proofs.Ytdjdbjcapenjeaa
