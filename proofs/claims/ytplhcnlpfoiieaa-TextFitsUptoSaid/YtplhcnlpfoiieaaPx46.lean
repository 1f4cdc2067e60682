-- Written by printx.py (this work's driver over the kit's print) out of the translation; Lean checks it.
import Derived.Test.YtplhcnlpfoiieaaPx0
namespace Go.Proofs.Ytplhcnlpfoiieaa.P
open Go.RowKit Go.Proofs.YtplhcnlpfoiieaaW.PrintWords Go.Proofs.YtplhcnlpfoiieaaW.PrintLast Go.Proofs.YtplhcnlpfoiieaaW.PrintMore
attribute [local go_sem] max2_int min2_int max_two min_two max_three min_three max_four min_four   -- for this text's walks alone
set_option linter.unusedVariables false
set_option linter.unusedSimpArgs false

/-! ### text_marks: function 82 -/
def text_marks.f  : Option ((List (S115))) := some (([(⟨768, 879⟩ : S115), (⟨1155, 1161⟩ : S115), (⟨1425, 1469⟩ : S115), (⟨1611, 1631⟩ : S115), (⟨6832, 6911⟩ : S115), (⟨7616, 7679⟩ : S115), (⟨8400, 8447⟩ : S115), (⟨65024, 65039⟩ : S115), (⟨65056, 65071⟩ : S115)] : List (S115)))
set_option maxHeartbeats 8000000 in
set_option maxRecDepth 100000 in
theorem text_marks.calls  (r : List (S115)) (w : World) (h : text_marks.f  = some r) :
    Calls Try.prog 82 #[] w fun e w' => ∃ v0_ : Value, e = .returned (v0_) ∧ Kd.R k115 115 w' w.heap.size (fun _ => True) v0_ r ∧ Below w.heap.size w w' := by
  have hu115 := Try.underlying115
  have HB := Aside0.mk (Below.refl w.heap.size w)
  have H : (some (([(⟨768, 879⟩ : S115), (⟨1155, 1161⟩ : S115), (⟨1425, 1469⟩ : S115), (⟨1611, 1631⟩ : S115), (⟨6832, 6911⟩ : S115), (⟨7616, 7679⟩ : S115), (⟨8400, 8447⟩ : S115), (⟨65024, 65039⟩ : S115), (⟨65056, 65071⟩ : S115)] : List (S115)))) = some r := h
  clear h
  obtain ⟨y329, hy329⟩ : ∃ y_ : List (S115), y_ = (([(⟨768, 879⟩ : S115), (⟨1155, 1161⟩ : S115), (⟨1425, 1469⟩ : S115), (⟨1611, 1631⟩ : S115), (⟨6832, 6911⟩ : S115), (⟨7616, 7679⟩ : S115), (⟨8400, 8447⟩ : S115), (⟨65024, 65039⟩ : S115), (⟨65056, 65071⟩ : S115)] : List (S115))) := ⟨_, rfl⟩
  replace H : (some y329) = some r := by first | (rw [hy329]; with_reducible exact H) | (have H2_ := (Option.bind_some _ _).symm.trans H; rw [hy329]; with_reducible exact H2_) | (have H2_ := (Option.bind_some _ _).symm.trans H; with_reducible exact H2_) | with_reducible exact H | (rw [hy329]; exact H) | exact H
  have Ny329 := Aside0.mk hy329
  clear hy329
  obtain rfl := Option.some.inj H
  go_enter Try.func82, Try.ntmps82
  go_wp2_with (first | ((with_reducible refine gate_dst (N := 10) rfl ?_); refine Kd.R_lit k115 _ 115 ?hg (N := 10) ?hd (xs := ([(⟨768, 879⟩ : S115), (⟨1155, 1161⟩ : S115), (⟨1425, 1469⟩ : S115), (⟨1611, 1631⟩ : S115), (⟨6832, 6911⟩ : S115), (⟨7616, 7679⟩ : S115), (⟨8400, 8447⟩ : S115), (⟨65024, 65039⟩ : S115), (⟨65056, 65071⟩ : S115)] : List (S115))) (inner := [.int .i32 768, .int .i32 879, .int .i32 1155, .int .i32 1161, .int .i32 1425, .int .i32 1469, .int .i32 1611, .int .i32 1631, .int .i32 6832, .int .i32 6911, .int .i32 7616, .int .i32 7679, .int .i32 8400, .int .i32 8447, .int .i32 65024, .int .i32 65039, .int .i32 65056, .int .i32 65071]) (ok := fun _ => True) (okp := fun _ => True) ?hr ?hp (fun _ hk => hk) trivial (Below.refl _ _) (Nat.le_refl _) (by simp) ?_; (case hd => rfl); (case hg => rfl); (case hr => first | (go_simp; done) | (go_simp; rfl)); (case hp => exact (Reps.c2 (show Kd.M k115 _ _ _ (⟨768, 879⟩ : S115) [.int .i32 768, .int .i32 879] from (k115_mkM _ _ _ (⟨768, 879⟩ : S115) )) (Reps.c2 (show Kd.M k115 _ _ _ (⟨1155, 1161⟩ : S115) [.int .i32 1155, .int .i32 1161] from (k115_mkM _ _ _ (⟨1155, 1161⟩ : S115) )) (Reps.c2 (show Kd.M k115 _ _ _ (⟨1425, 1469⟩ : S115) [.int .i32 1425, .int .i32 1469] from (k115_mkM _ _ _ (⟨1425, 1469⟩ : S115) )) (Reps.c2 (show Kd.M k115 _ _ _ (⟨1611, 1631⟩ : S115) [.int .i32 1611, .int .i32 1631] from (k115_mkM _ _ _ (⟨1611, 1631⟩ : S115) )) (Reps.c2 (show Kd.M k115 _ _ _ (⟨6832, 6911⟩ : S115) [.int .i32 6832, .int .i32 6911] from (k115_mkM _ _ _ (⟨6832, 6911⟩ : S115) )) (Reps.c2 (show Kd.M k115 _ _ _ (⟨7616, 7679⟩ : S115) [.int .i32 7616, .int .i32 7679] from (k115_mkM _ _ _ (⟨7616, 7679⟩ : S115) )) (Reps.c2 (show Kd.M k115 _ _ _ (⟨8400, 8447⟩ : S115) [.int .i32 8400, .int .i32 8447] from (k115_mkM _ _ _ (⟨8400, 8447⟩ : S115) )) (Reps.c2 (show Kd.M k115 _ _ _ (⟨65024, 65039⟩ : S115) [.int .i32 65024, .int .i32 65039] from (k115_mkM _ _ _ (⟨65024, 65039⟩ : S115) )) (Reps.c2 (show Kd.M k115 _ _ _ (⟨65056, 65071⟩ : S115) [.int .i32 65056, .int .i32 65071] from (k115_mkM _ _ _ (⟨65056, 65071⟩ : S115) )) (Reps.none _ _))))))))))); intro v330 w1 ho2 hb hg_ hnew_; clear hg_ hnew_; (first | rw [← Ny329.out] at ho2 | (simp only [Int.reduceToNat] at ho2; rw [← Ny329.out] at ho2)); have n0_ := Aside0.mk (Kd.R_lower ho2 (below_size (by repeat (first | (with_reducible first | exact HB.out | apply below_alloc | apply pw_below_drewN | apply below_drew1) | exact HB.out)))); have n1_ := Aside0.mk (below_step (by repeat (first | (with_reducible first | exact HB.out | apply below_alloc | apply pw_below_drewN | apply below_drew1) | exact HB.out)) hb); clear HB; have HO331 := n0_; have HB := n1_; clear n0_ n1_; clear hb ho2))
  go_ret
  exact ⟨_, by first | rfl | (simp [errW_none, errW_some] <;> rfl) | (simp [*, errW_none, errW_some] <;> rfl), by (with_reducible repeat (first | apply Kd.R_alloc | apply Kd.R_drewN | apply Kd.R_drew)); exact HO331.out, by repeat (first | (with_reducible first | exact HB.out | apply below_alloc | apply pw_below_drewN | apply below_drew1) | exact HB.out)⟩

end Go.Proofs.Ytplhcnlpfoiieaa.P
