/- What the small functions of linear's steps answer (walked by hand). -/
import Derived.Test.YtdjdbjcapenjeaaXH
import Derived.Test.YtdjdbjcapenjeaaPx8
namespace Go.Proofs.Ytdjdbjcapenjeaa.P
open Go.RowKit Go.Proofs.YtdjdbjcapenjeaaW.PrintWords Go.Proofs.YtdjdbjcapenjeaaW.PrintLast Go.Proofs.YtdjdbjcapenjeaaW.PrintMore
set_option linter.unusedVariables false
set_option linter.unusedSimpArgs false
def eqB (l0 l1 : List Int) : Bool := (strOfNums l0).toList == (strOfNums l1).toList
theorem cell_is_calls (xhas : Bool) (vx : Value) (lx : List Int) (vo : Value) (lo : List Int) (w : World) (hx : RdB w vx lx) (ho : RdB w vo lo) :
    Calls Try.prog 50 #[.agg #[.bool xhas, vx], vo] w fun e w' => e = .returned (.bool (xhas && eqB lx lo)) ∧ Below w.heap.size w w' := by
  obtain ⟨Ax, cx, rfl, h1, h2⟩ := hx
  obtain ⟨Ao, co, rfl, h3, h4⟩ := ho
  exact linear_cell_is.calls xhas Ax cx lx Ao co lo (xhas && eqB lx lo) w h2 h1 h4 h3 (by unfold linear_cell_is.f bytes_Equal.f eqB; cases xhas <;> simp)
def expectedV (has : Bool) (lo : List Int) (xhas : Bool) (lx : List Int) : Bool := if has = true then xhas && eqB lx lo else !xhas
set_option maxHeartbeats 400000 in
set_option maxRecDepth 100000 in
theorem expected_calls (b o : Nat) (has : Bool) (vo : Value) (lo : List Int) (xhas : Bool) (vx : Value) (lx : List Int) (w : World)
    (h5 : w.cell? ⟨b, o + 5, none⟩ = some (.bool has)) (h4 : w.cell? ⟨b, o + 4, none⟩ = some vo) (ho : RdB w vo lo) (hx : RdB w vx lx) :
    Calls Try.prog 51 #[.pointer (some ⟨b, o, none⟩), .agg #[.bool xhas, vx]] w fun e w' => e = .returned (.bool (expectedV has lo xhas lx)) ∧ Below w.heap.size w w' := by
  have HO := Aside0.mk ho
  have HX := Aside0.mk hx
  have HB := Aside0.mk (Below.refl w.heap.size w)
  have hu := Try.underlying64
  clear ho hx
  cases has with
  | true =>
    go_enter Try.func51, Try.ntmps51
    go_wp2_with (((with_reducible refine gate_dst (N := 3) rfl ?_); (try (refine gate_guard (by rfl) ?_; dsimp only)); refine box_event (by rfl) (N := 3) (by rfl) (cs := #[.bool xhas, vx]) (t := 64) ?hrz2 ?_; (case hrz2 => first | (go_simp; done) | (go_simp; rfl)); intro gx hg_ wq1 hbox hb; have gx_G := gG_ hg_ HB; replace h4 := pw_cell_below hb h4; replace h5 := pw_cell_below hb h5; have gx_B := Aside0.mk hbox; obtain ⟨gx_0, gx_1, gx_f0, gx_f1⟩ := cz2_ hbox; replace HB := Aside0.mk (below_step HB.out hb); clear hbox hb hg_))
    go_region_held3 (fun w' => w'.cell? ⟨gx, 0, none⟩ = some (.bool xhas) ∧ w'.cell? ⟨gx, 1, none⟩ = some (vx) ∧ w'.cell? ⟨b, o + 4, none⟩ = some (vo)) (go_keep) ((go_at_call 50; refine (cell_is_calls xhas vx lx vo lo _ ?s0_z4 ?s1_z4).mono ?_; (case s0_z4 => first | (with_reducible exact HX.out.below HB.out) | (with_reducible exact HX.out.below (below_drew HB.out)) | (with_reducible exact HX.out.below (pw_below_drewN HB.out _))); (case s1_z4 => first | (with_reducible exact HO.out.below HB.out) | (with_reducible exact HO.out.below (below_drew HB.out)) | (with_reducible exact HO.out.below (pw_below_drewN HB.out _))); rintro e wq3 ⟨rfl, hb⟩; (try replace hb := unb1 hb); (try replace hb := unbN hb); replace h4 := pw_cell_below hb h4; replace h5 := pw_cell_below hb h5; replace gx_B := Aside0.mk (blk_below gx_B.out hb); clear gx_0 gx_f0 gx_1 gx_f1; obtain ⟨gx_0, gx_1, gx_f0, gx_f1⟩ := cz2_ gx_B.out; replace HB := Aside0.mk (below_step HB.out hb); clear hb))
    all_goals
      go_wp2
      go_ret
      exact ⟨rfl, HB.out⟩
  | false =>
    go_enter Try.func51, Try.ntmps51
    go_wp2_with (((with_reducible refine gate_dst (N := 3) rfl ?_); (try (refine gate_guard (by rfl) ?_; dsimp only)); refine box_event (by rfl) (N := 3) (by rfl) (cs := #[.bool xhas, vx]) (t := 64) ?hrz6 ?_; (case hrz6 => first | (go_simp; done) | (go_simp; rfl)); intro gx hg_ wq5 hbox hb; have gx_G := gG_ hg_ HB; replace h4 := pw_cell_below hb h4; replace h5 := pw_cell_below hb h5; have gx_B := Aside0.mk hbox; obtain ⟨gx_0, gx_1, gx_f0, gx_f1⟩ := cz2_ hbox; replace HB := Aside0.mk (below_step HB.out hb); clear hbox hb hg_))
    go_ret
    exact ⟨rfl, HB.out⟩
