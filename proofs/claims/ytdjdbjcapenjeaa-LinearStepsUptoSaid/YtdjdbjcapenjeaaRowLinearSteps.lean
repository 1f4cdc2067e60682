/- shard/shardlaw14.LinearSteps: for every input (its values and letters together at most 1048576) the call answers true, and each argument reads afterwards as it read before. -/
import Derived.Test.YtdjdbjcapenjeaaRows
import Derived.Test.YtdjdbjcapenjeaaLinJ
import Derived.Test.YtdjdbjcapenjeaaXBulk
import Derived.WalkKit
import Derived.ProofKit
import Derived.OpenShut
import Derived.ShutString
import Derived.ChangeOld
import Derived.Below
import Derived.SizedLaws
import Derived.JoinedCond
import Derived.Carry
import Derived.Test.YtdjdbjcapenjeaaXRead
set_option linter.unusedVariables false
set_option linter.unusedSimpArgs false
namespace Go.Proofs.Ytdjdbjcapenjeaa.linearSteps
open Go.ChangeShapes Go.WideShapes Go.ChangeAt Go.RowKit
open Go.ChangeMaps (open_string shut_string)
theorem laidOut : laidOutB Try.prog = true := by kernel_rfl
theorem own : ownKnob Try.prog.godebug = none := by kernel_rfl
set_option maxRecDepth 100000 in
theorem contract (H : Type) (enc : TypeId × Value → H) (W : World) (base : Nat) (args : Array Value) (ds gs : List (DataW H)) (before : List MemPlace)
    (hval0 : ∀ (j : Nat) t v, Try.f3.params[j]? = some t → args[j]? = some v → Value.okWide Try.prog W .any base t v)
    (hW : DataW.Whole enc Try.prog Try.f3.params.toList Rows.linearStepsSpec.vars false W args.toList ds gs before) (hk : Rows.uptoSmall H (ds ++ gs) = true) :
    Calls Try.prog 3 args W fun e W' => ∃ v, e = .returned v ∧ Rows.linearStepsSpec.post enc Try.prog Try.f3 false true false false W args v W' := by
  have hval : ∀ (j : Nat) t v, Try.f3.params[j]? = some t → args[j]? = some v → Value.okWide Try.prog W .any base t v := hval0
  have hW' := hW
  obtain ⟨p, q, hA0, hV, rfl, hfz, hnd⟩ := hW
  have hA : DataW.TrodAll enc Try.prog W 0 (fun _ => true) true Try.f3.params.toList args.toList ds p := hA0
  rw [Try.params3] at hA hval
  obtain ⟨v0, vs0, d0, ds0, p0, q0, hargs, rfl, rfl, h0, r0⟩ := trodAll_cons hA
  obtain ⟨v1, vs1, d1, ds1, p1, q1, rfl, rfl, rfl, h1, r1⟩ := trodAll_cons r0
  obtain ⟨v2, vs2, d2, ds2, p2, q2, rfl, rfl, rfl, h2, r2⟩ := trodAll_cons r1
  obtain ⟨rfl, rfl, rfl⟩ := trodAll_nil r2
  obtain rfl : args = #[v0, v1, v2] := by cases args; simp_all
  obtain ⟨rfl, rfl⟩ := trodVars_none hV
  have bk := bulks.bound hk
  obtain ⟨cs0, rfl, cz0⟩ := okWide_struct Try.underlying30 (hval 0 30 v0 rfl rfl)
  have k0 := h0
  have lt0 : ∀ x ∈ p0, x.block < W.heap.size := by obtain ⟨m, hm⟩ := k0; exact DataW.trod_lt m _ _ _ hm
  obtain ⟨a0, hr0, w0, sz0⟩ := reads.arg_struct (reads.Opens.struct (f := fun x : P.S30 => (x.f0, x.f1, x.f2, x.f3, x.f4, x.f5, x.f6)) (g := fun x => ⟨x.1, x.2.1, x.2.2.1, x.2.2.2.1, x.2.2.2.2.1, x.2.2.2.2.2.1, x.2.2.2.2.2.2⟩) Try.underlying30 rfl (by kernel_rfl) (fun _ => rfl) (reads.Parts.cons rfl (by kernel_rfl) (reads.Opens.int Try.underlying22) (reads.Parts.cons rfl (by kernel_rfl) (reads.Opens.int Try.underlying23) (reads.Parts.cons rfl (by kernel_rfl) (reads.Opens.struct (f := fun x : P.S27 => (x.f0, x.f1, x.f2, x.f3, x.f4, x.f5, x.f6)) (g := fun x => ⟨x.1, x.2.1, x.2.2.1, x.2.2.2.1, x.2.2.2.2.1, x.2.2.2.2.2.1, x.2.2.2.2.2.2⟩) Try.underlying27 rfl (by kernel_rfl) (fun _ => rfl) (reads.Parts.cons rfl (by kernel_rfl) (reads.Opens.int Try.underlying24) (reads.Parts.cons rfl (by kernel_rfl) (reads.Opens.int Try.underlying23) (reads.Parts.cons rfl (by kernel_rfl) (reads.Opens.int Try.underlying23) (reads.Parts.cons rfl (by kernel_rfl) (reads.Opens.slice Try.underlying25 (by kernel_rfl) (reads.Opens.int Try.underlying5)) (reads.Parts.cons rfl (by kernel_rfl) (reads.Opens.slice Try.underlying25 (by kernel_rfl) (reads.Opens.int Try.underlying5)) (reads.Parts.cons rfl (by kernel_rfl) (reads.Opens.bool Try.underlying4) (reads.Parts.one rfl (by kernel_rfl) (reads.Opens.int Try.underlying5))))))))) (reads.Parts.cons rfl (by kernel_rfl) (reads.Opens.int Try.underlying28) (reads.Parts.cons rfl (by kernel_rfl) (reads.Opens.slice Try.underlying25 (by kernel_rfl) (reads.Opens.int Try.underlying5)) (reads.Parts.cons rfl (by kernel_rfl) (reads.Opens.int Try.underlying3) (reads.Parts.one rfl (by kernel_rfl) (reads.Opens.int Try.underlying3))))))))) h0
  obtain ⟨a1, rfl, rfl, rfl⟩ := open_bool Try.underlying4 (hval 1 4 v1 rfl rfl) h1
  obtain ⟨A2, len2, cap2, rfl⟩ := okWide_slice Try.underlying25 (hval 2 25 v2 rfl rfl)
  have k2 := h2
  have lt2 : ∀ x ∈ p2, x.block < W.heap.size := by obtain ⟨m, hm⟩ := k2; exact DataW.trod_lt m _ _ _ hm
  obtain ⟨a2, rfl, hc2, hr2, w2, sz2⟩ := reads.arg_slice (reads.Opens.slice Try.underlying25 (by kernel_rfl) (reads.Opens.int Try.underlying5)) h2
  have z0 := Nat.le_trans sz0 (Nat.le_trans (bulks.part_le (List.mem_of_getElem? (i := 0) rfl)) bk)
  have z2 := Nat.le_trans sz2 (Nat.le_trans (bulks.part_le (List.mem_of_getElem? (i := 2) rfl)) bk)
  replace z2 : a2.length ≤ 1048576 := by have q : (a2.map fun _ => 1).sum + 1 ≤ 1048576 := z2; rw [reads.sum_one] at q; omega
  clear hA0 hval0
  refine (P.LinearSteps_law a0 cs0 a1 A2 cap2 a2 W hr0 w0 z0 hr2 hc2 w2 z2).mono fun e W' ⟨he, bel⟩ => ?_
  subst he
  exact ⟨_, rfl, _, _, _, [], _, [], hW', trodAll_mk1 (shut_bool Try.underlying4 _), (trodAll_cons_mk (Below.trod laidOut (by kernel_rfl) (of_decide_eq_true (by kernel_rfl)) k0 bel lt0) (trodAll_cons_mk (shut_bool Try.underlying4 _) (trodAll_cons_mk (Below.trod laidOut (by kernel_rfl) (of_decide_eq_true (by kernel_rfl)) k2 bel lt2) trodAll_mk0))), rfl, bel.frame _, fun h => by cases h⟩
set_option maxRecDepth 100000 in
theorem lifted (os : Os) (started : os.Started) (H : Type) (enc : TypeId × Value → H) (F : Stop.Interp) :
    ReturnsInHanded {} Try.checked os 3 .any ((Rows.OpenSpec.upto Rows.linearStepsSpec).pre6 enc Try.prog Try.f3 Rows.linearStepsUptoRow.domain false) (((Rows.OpenSpec.upto Rows.linearStepsSpec).at F).post enc Try.prog Try.f3 false true false false) := by
  refine returnsInHanded_of_cond (C := Try.checked) (s := Rows.OpenSpec.upto Rows.linearStepsSpec) (k := Rows.uptoSmall) rfl own started (by kernel_rfl) Try.func3
    (OpenSpec.witness (enc := enc) (C := Try.checked) (s := Rows.OpenSpec.upto Rows.linearStepsSpec) (k := Rows.uptoSmall) rfl false ⟨#[], #[.agg #[.int .u8 0, .int .u64 0, .int .u8 0, .int .u64 0, .int .u64 0, .slice none 0 0, .slice none 0 0, .bool false, .int .u8 0, .int .u8 0, .slice none 0 0, .int .i64 0, .int .i64 0], .bool false, .slice none 0 0], []⟩ 8 (by kernel_rfl) (by kernel_rfl) (by kernel_rfl)
      (x := ([.agg [.lit (.int .u8 0), .lit (.int .u64 0), .agg [.lit (.int .u8 0), .lit (.int .u64 0), .lit (.int .u64 0), .nil, .nil, .lit (.bool false), .lit (.int .u8 0)], .lit (.int .u8 0), .nil, .lit (.int .i64 0), .lit (.int .i64 0)], .lit (.bool false), .nil], [], [])) (by kernel_rfl) rfl (by kernel_rfl)) ?_
  intro W base args ds gs before hval hW _ hk _
  exact contract H enc W base args ds gs before hval hW hk
theorem over : Rows.linearStepsUptoRow.holds Try.pinned (Rows.OpenSpec.upto Rows.linearStepsSpec) :=
  OpenClaim.holds_of_cond 3 Try.f3 rfl rfl rfl rfl rfl rfl rfl ⟨rfl, rfl, rfl, rfl, rfl⟩ rfl rfl rfl rfl rfl (by kernel_rfl) Try.func3 (by kernel_rfl)
    (of_decide_eq_true (by kernel_rfl)) (by unfold Func.isWrapper; first | (rw [if_pos (by decide +kernel)]; kernel_rfl) | (rw [if_neg (by decide +kernel)]; exact ⟨rfl, rfl⟩))
    (fun os started H enc _ F => lifted os started H enc F)
theorem proved : Rows.LinearStepsUptoSaid := over
end Go.Proofs.Ytdjdbjcapenjeaa.linearSteps
namespace Go.Proofs.Ytdjdbjcapenjeaa
theorem linearStepsUpto_holds : Rows.LinearStepsUptoSaid := linearSteps.proved
#print axioms linearStepsUpto_holds
end Go.Proofs.Ytdjdbjcapenjeaa
