-- Written by printx.py (this work's driver over the kit's print) out of the translation; Lean checks it.
import Derived.Test.YtplhcnlpfoiieaaDoorPx0
namespace Go.Proofs.YtplhcnlpfoiieaaDoor.P
open Go.RowKit Go.Proofs.YtplhcnlpfoiieaaDoorW.PrintWords Go.Proofs.YtplhcnlpfoiieaaDoorW.PrintLast Go.Proofs.YtplhcnlpfoiieaaDoorW.PrintMore
attribute [local go_sem] max2_int min2_int max_two min_two max_three min_three max_four min_four   -- for this text's walks alone
set_option linter.unusedVariables false
set_option linter.unusedSimpArgs false

/-! ### text_letters: function 57 -/
def text_letters.f  : Option ((List (S109))) := some (([(⟨65, 90⟩ : S109), (⟨97, 122⟩ : S109), (⟨192, 214⟩ : S109), (⟨216, 246⟩ : S109), (⟨248, 255⟩ : S109), (⟨913, 929⟩ : S109), (⟨931, 937⟩ : S109), (⟨945, 969⟩ : S109), (⟨1040, 1103⟩ : S109)] : List (S109)))
set_option maxHeartbeats 8000000 in
set_option maxRecDepth 100000 in
theorem text_letters.calls  (r : List (S109)) (w : World) (h : text_letters.f  = some r) :
    Calls Tryd.prog 57 #[] w fun e w' => ∃ v0_ : Value, e = .returned (v0_) ∧ Kd.R k109 109 w' w.heap.size (fun _ => True) v0_ r ∧ Below w.heap.size w w' := by
  have hu109 := Tryd.underlying109
  have HB := Aside0.mk (Below.refl w.heap.size w)
  have H : (some (([(⟨65, 90⟩ : S109), (⟨97, 122⟩ : S109), (⟨192, 214⟩ : S109), (⟨216, 246⟩ : S109), (⟨248, 255⟩ : S109), (⟨913, 929⟩ : S109), (⟨931, 937⟩ : S109), (⟨945, 969⟩ : S109), (⟨1040, 1103⟩ : S109)] : List (S109)))) = some r := h
  clear h
  obtain ⟨y286, hy286⟩ : ∃ y_ : List (S109), y_ = (([(⟨65, 90⟩ : S109), (⟨97, 122⟩ : S109), (⟨192, 214⟩ : S109), (⟨216, 246⟩ : S109), (⟨248, 255⟩ : S109), (⟨913, 929⟩ : S109), (⟨931, 937⟩ : S109), (⟨945, 969⟩ : S109), (⟨1040, 1103⟩ : S109)] : List (S109))) := ⟨_, rfl⟩
  replace H : (some y286) = some r := by first | (rw [hy286]; with_reducible exact H) | (have H2_ := (Option.bind_some _ _).symm.trans H; rw [hy286]; with_reducible exact H2_) | (have H2_ := (Option.bind_some _ _).symm.trans H; with_reducible exact H2_) | with_reducible exact H | (rw [hy286]; exact H) | exact H
  have Ny286 := Aside0.mk hy286
  clear hy286
  obtain rfl := Option.some.inj H
  go_enter Tryd.func57, Tryd.ntmps57
  go_wp2_with (first | ((with_reducible refine gate_dst (N := 10) rfl ?_); refine Kd.R_lit k109 _ 109 ?hg (N := 10) ?hd (xs := ([(⟨65, 90⟩ : S109), (⟨97, 122⟩ : S109), (⟨192, 214⟩ : S109), (⟨216, 246⟩ : S109), (⟨248, 255⟩ : S109), (⟨913, 929⟩ : S109), (⟨931, 937⟩ : S109), (⟨945, 969⟩ : S109), (⟨1040, 1103⟩ : S109)] : List (S109))) (inner := [.int .i32 65, .int .i32 90, .int .i32 97, .int .i32 122, .int .i32 192, .int .i32 214, .int .i32 216, .int .i32 246, .int .i32 248, .int .i32 255, .int .i32 913, .int .i32 929, .int .i32 931, .int .i32 937, .int .i32 945, .int .i32 969, .int .i32 1040, .int .i32 1103]) (ok := fun _ => True) (okp := fun _ => True) ?hr ?hp (fun _ hk => hk) trivial (Below.refl _ _) (Nat.le_refl _) (by simp) ?_; (case hd => rfl); (case hg => rfl); (case hr => first | (go_simp; done) | (go_simp; rfl)); (case hp => exact (Reps.c2 (show Kd.M k109 _ _ _ (⟨65, 90⟩ : S109) [.int .i32 65, .int .i32 90] from (k109_mkM _ _ _ (⟨65, 90⟩ : S109) )) (Reps.c2 (show Kd.M k109 _ _ _ (⟨97, 122⟩ : S109) [.int .i32 97, .int .i32 122] from (k109_mkM _ _ _ (⟨97, 122⟩ : S109) )) (Reps.c2 (show Kd.M k109 _ _ _ (⟨192, 214⟩ : S109) [.int .i32 192, .int .i32 214] from (k109_mkM _ _ _ (⟨192, 214⟩ : S109) )) (Reps.c2 (show Kd.M k109 _ _ _ (⟨216, 246⟩ : S109) [.int .i32 216, .int .i32 246] from (k109_mkM _ _ _ (⟨216, 246⟩ : S109) )) (Reps.c2 (show Kd.M k109 _ _ _ (⟨248, 255⟩ : S109) [.int .i32 248, .int .i32 255] from (k109_mkM _ _ _ (⟨248, 255⟩ : S109) )) (Reps.c2 (show Kd.M k109 _ _ _ (⟨913, 929⟩ : S109) [.int .i32 913, .int .i32 929] from (k109_mkM _ _ _ (⟨913, 929⟩ : S109) )) (Reps.c2 (show Kd.M k109 _ _ _ (⟨931, 937⟩ : S109) [.int .i32 931, .int .i32 937] from (k109_mkM _ _ _ (⟨931, 937⟩ : S109) )) (Reps.c2 (show Kd.M k109 _ _ _ (⟨945, 969⟩ : S109) [.int .i32 945, .int .i32 969] from (k109_mkM _ _ _ (⟨945, 969⟩ : S109) )) (Reps.c2 (show Kd.M k109 _ _ _ (⟨1040, 1103⟩ : S109) [.int .i32 1040, .int .i32 1103] from (k109_mkM _ _ _ (⟨1040, 1103⟩ : S109) )) (Reps.none _ _))))))))))); intro v287 w1 ho2 hb hg_ hnew_; clear hg_ hnew_; (first | rw [← Ny286.out] at ho2 | (simp only [Int.reduceToNat] at ho2; rw [← Ny286.out] at ho2)); have n0_ := Aside0.mk (Kd.R_lower ho2 (below_size (by repeat (first | (with_reducible first | exact HB.out | apply below_alloc | apply pw_below_drewN | apply below_drew1) | exact HB.out)))); have n1_ := Aside0.mk (below_step (by repeat (first | (with_reducible first | exact HB.out | apply below_alloc | apply pw_below_drewN | apply below_drew1) | exact HB.out)) hb); clear HB; have HO288 := n0_; have HB := n1_; clear n0_ n1_; clear hb ho2))
  go_ret
  exact ⟨_, by first | rfl | (simp [errW_none, errW_some] <;> rfl) | (simp [*, errW_none, errW_some] <;> rfl), by (with_reducible repeat (first | apply Kd.R_alloc | apply Kd.R_drewN | apply Kd.R_drew)); exact HO288.out, by repeat (first | (with_reducible first | exact HB.out | apply below_alloc | apply pw_below_drewN | apply below_drew1) | exact HB.out)⟩

end Go.Proofs.YtplhcnlpfoiieaaDoor.P
