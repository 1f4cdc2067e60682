/- shard/shardlaw1.TextJoins: for every input (its values and letters together at most 1048576) the call answers true, and each argument reads afterwards as it read before. -/
import Derived.Test.YtplhcnlpfoiieaaRows
import Derived.Test.YtplhcnlpfoiieaaPx76
import Derived.Test.YtplhcnlpfoiieaaPureTextJoins
import Derived.Test.YtplhcnlpfoiieaaXBulk
import Derived.WalkKit
import Derived.ProofKit
import Derived.OpenShut
import Derived.ShutString
import Derived.ChangeOld
import Derived.Below
import Derived.SizedLaws
import Derived.JoinedCond
import Derived.Carry
import Derived.Test.YtplhcnlpfoiieaaXRead
set_option linter.unusedVariables false
set_option linter.unusedSimpArgs false
namespace Go.Proofs.Ytplhcnlpfoiieaa.textJoins
open Go.ChangeShapes Go.WideShapes Go.ChangeAt Go.RowKit
open Go.ChangeMaps (open_string shut_string)
theorem laidOut : laidOutB Try.prog = true := by kernel_rfl
theorem own : ownKnob Try.prog.godebug = none := by kernel_rfl
set_option maxRecDepth 100000 in
theorem contract (H : Type) (enc : TypeId × Value → H) (W : World) (base : Nat) (args : Array Value) (ds gs : List (DataW H)) (before : List MemPlace)
    (hval0 : ∀ (j : Nat) t v, Try.f9.params[j]? = some t → args[j]? = some v → Value.okWide Try.prog W .any base t v)
    (hW : DataW.Whole enc Try.prog Try.f9.params.toList Rows.textJoinsSpec.vars false W args.toList ds gs before) (hk : Rows.uptoSmall H (ds ++ gs) = true) :
    Calls Try.prog 9 args W fun e W' => ∃ v, e = .returned v ∧ Rows.textJoinsSpec.post enc Try.prog Try.f9 false true false false W args v W' := by
  have hval : ∀ (j : Nat) t v, Try.f9.params[j]? = some t → args[j]? = some v → Value.okWide Try.prog W .any base t v := hval0
  have hW' := hW
  obtain ⟨p, q, hA0, hV, rfl, hfz, hnd⟩ := hW
  have hA : DataW.TrodAll enc Try.prog W 0 (fun _ => true) true Try.f9.params.toList args.toList ds p := hA0
  rw [Try.params9] at hA hval
  obtain ⟨v0, vs0, d0, ds0, p0, q0, hargs, rfl, rfl, h0, r0⟩ := trodAll_cons hA
  obtain ⟨rfl, rfl, rfl⟩ := trodAll_nil r0
  obtain rfl : args = #[v0] := by cases args; simp_all
  obtain ⟨rfl, rfl⟩ := trodVars_none hV
  have bk := bulks.bound hk
  obtain ⟨A0, len0, cap0, rfl⟩ := okWide_slice Try.underlying47 (hval 0 47 v0 rfl rfl)
  have k0 := h0
  have lt0 : ∀ x ∈ p0, x.block < W.heap.size := by obtain ⟨m, hm⟩ := k0; exact DataW.trod_lt m _ _ _ hm
  obtain ⟨a0, rfl, hc0, hr0, w0, sz0⟩ := reads.arg_slice (reads.Opens.slice Try.underlying47 (by kernel_rfl) (reads.Opens.struct (f := fun x : P.S50 => (x.f0, x.f1, x.f2)) (g := fun x => ⟨x.1, x.2.1, x.2.2⟩) Try.underlying50 rfl (by kernel_rfl) (fun _ => rfl) (reads.Parts.cons rfl (by kernel_rfl) (reads.Opens.string Try.underlying9) (reads.Parts.cons rfl (by kernel_rfl) (reads.Opens.bool Try.underlying4) (reads.Parts.one rfl (by kernel_rfl) (reads.Opens.int Try.underlying3)))))) h0
  have z0 := Nat.le_trans sz0 (Nat.le_trans (bulks.part_le (List.mem_of_getElem? (i := 0) rfl)) bk)
  clear hA0 hval0
  obtain ⟨k, h⟩ := Pure.TextJoins a0 z0 w0
  refine (P.shardlaw1_TextJoins.calls k A0 cap0 a0 true W hr0 hc0 h).mono fun e W' ⟨he, bel⟩ => ?_
  subst he
  exact ⟨_, rfl, _, _, _, [], _, [], hW', trodAll_mk1 (shut_bool Try.underlying4 _), (trodAll_cons_mk (Below.trod laidOut (by kernel_rfl) (of_decide_eq_true (by kernel_rfl)) k0 bel lt0) trodAll_mk0), rfl, bel.frame _, fun h => by cases h⟩
set_option maxRecDepth 100000 in
theorem lifted (os : Os) (started : os.Started) (H : Type) (enc : TypeId × Value → H) (F : Stop.Interp) :
    ReturnsInHanded {} Try.checked os 9 .any ((Rows.OpenSpec.upto Rows.textJoinsSpec).pre6 enc Try.prog Try.f9 Rows.textJoinsUptoRow.domain false) (((Rows.OpenSpec.upto Rows.textJoinsSpec).at F).post enc Try.prog Try.f9 false true false false) := by
  refine returnsInHanded_of_cond (C := Try.checked) (s := Rows.OpenSpec.upto Rows.textJoinsSpec) (k := Rows.uptoSmall) rfl own started (by kernel_rfl) Try.func9
    (OpenSpec.witness (enc := enc) (C := Try.checked) (s := Rows.OpenSpec.upto Rows.textJoinsSpec) (k := Rows.uptoSmall) rfl false ⟨#[], #[.slice none 0 0], []⟩ 8 (by kernel_rfl) (by kernel_rfl) (by kernel_rfl)
      (x := ([.nil], [], [])) (by kernel_rfl) rfl (by kernel_rfl)) ?_
  intro W base args ds gs before hval hW _ hk _
  exact contract H enc W base args ds gs before hval hW hk
theorem over : Rows.textJoinsUptoRow.holds Try.pinned (Rows.OpenSpec.upto Rows.textJoinsSpec) :=
  OpenClaim.holds_of_cond 9 Try.f9 rfl rfl rfl rfl rfl rfl rfl ⟨rfl, rfl, rfl, rfl, rfl⟩ rfl rfl rfl rfl rfl (by kernel_rfl) Try.func9 (by kernel_rfl)
    (of_decide_eq_true (by kernel_rfl)) (by unfold Func.isWrapper; first | (rw [if_pos (by decide +kernel)]; kernel_rfl) | (rw [if_neg (by decide +kernel)]; exact ⟨rfl, rfl⟩))
    (fun os started H enc _ F => lifted os started H enc F)
theorem proved : Rows.TextJoinsUptoSaid := over
end Go.Proofs.Ytplhcnlpfoiieaa.textJoins
namespace Go.Proofs.Ytplhcnlpfoiieaa
theorem textJoinsUpto_holds : Rows.TextJoinsUptoSaid := textJoins.proved
#print axioms textJoinsUpto_holds
end Go.Proofs.Ytplhcnlpfoiieaa
