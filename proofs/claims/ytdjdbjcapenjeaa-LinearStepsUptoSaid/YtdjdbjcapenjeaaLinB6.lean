/- What linear.play answers (walked by hand, case by case). -/
import Derived.Test.YtdjdbjcapenjeaaLinB
namespace Go.Proofs.Ytdjdbjcapenjeaa.P
open Go.RowKit Go.Proofs.YtdjdbjcapenjeaaW.PrintWords Go.Proofs.YtdjdbjcapenjeaaW.PrintLast Go.Proofs.YtdjdbjcapenjeaaW.PrintMore
set_option linter.unusedVariables false
set_option linter.unusedSimpArgs false
set_option maxHeartbeats 8000000 in
set_option maxRecDepth 100000 in
theorem play_get_tf (b o : Nat) (c : S30) (Ax : Option Addr) (cx : Nat) (lx : List Int) (A5 : Option Addr) (c5 : Nat) (A6 : Option Addr) (c6 : Nat) (A10 : Option Addr) (c10 : Nat) (w : World) (hp : PtCall w b o c A5 c5 A6 c6 A10 c10) (hx : lx.length ≤ cx ∧ Kd.C (Kd.int .u8) w Ax lx.length lx) (hk : (c.f6 != -1) = true) (f0 : (c.f2.f0 == 1) = true) (f1 : (c.f3 == 1) = true) (f2 : eqB lx c.f4 = false) :
    Calls Try.prog 29 #[.pointer (some ⟨b, o, none⟩), .agg #[.bool true, .slice Ax lx.length cx]] w fun e w' => e = .returned (.tuple #[.agg #[.bool false, .slice none 0 0], .bool (false)]) ∧ Below w.heap.size w w' := by
  obtain ⟨h0, h1, h2, h3, h4, h5, h6, h7, h8, h9, h10, h11, h12, g5, g6, g10⟩ := hp
  have hl := World.block_lt_of_cell? w _ h0
  have G5 := Aside0.mk g5
  have G6 := Aside0.mk g6
  have G10 := Aside0.mk g10
  have GX := Aside0.mk hx
  have KN := Aside0.mk hk
  have HB := Aside0.mk (Below.refl w.heap.size w)
  have hu := Try.underlying64
  have hu30 := Try.underlying30
  clear g5 g6 g10 hx hk
  have F2 := Aside0.mk f2
  clear f2
  go_enter Try.func29, Try.ntmps29
  
  go_wp2_with (first | ((with_reducible refine gate_dst (N := 3) rfl ?_); (try (refine gate_guard (by rfl) ?_; dsimp only)); refine box_event (by rfl) (N := 3) (by rfl) (cs := #[.bool true, .slice Ax lx.length cx]) (t := 64) ?hrz344 ?_; (case hrz344 => first | (go_simp; done) | (go_simp; rfl)); intro gx hg_ wq343 hbox hb; have gx_G := gG_ hg_ HB; have t_ := pb13_ hb h0 h1 h2 h3 h4 h5 h6 h7 h8 h9 h10 h11 h12; clear h0 h1 h2 h3 h4 h5 h6 h7 h8 h9 h10 h11 h12; obtain ⟨h0, h1, h2, h3, h4, h5, h6, h7, h8, h9, h10, h11, h12⟩ := t_; have gx_B := Aside0.mk hbox; obtain ⟨gx_0, gx_1, gx_f0, gx_f1⟩ := cz2_ hbox; replace HB := Aside0.mk (below_step HB.out hb); clear hbox hb hg_) | ((with_reducible refine gate_dst (N := 4) rfl ?_); (try (refine gate_guard (by rfl) ?_; dsimp only)); refine box_event (by rfl) (N := 4) (by rfl) (cs := #[.bool false, .slice none 0 0]) (t := 64) ?hrz346 ?_; (case hrz346 => first | (go_simp; done) | (go_simp; rfl)); intro gr hg_ wq345 hbox hb; have NE_gx_gr := nE1_ hg_ gx_B; have NE_gr_gx := nE2_ hg_ gx_B; have gr_G := gG_ hg_ HB; have t_ := pb13_ hb h0 h1 h2 h3 h4 h5 h6 h7 h8 h9 h10 h11 h12; clear h0 h1 h2 h3 h4 h5 h6 h7 h8 h9 h10 h11 h12; obtain ⟨h0, h1, h2, h3, h4, h5, h6, h7, h8, h9, h10, h11, h12⟩ := t_; replace gx_B := Aside0.mk (blk_below gx_B.out hb); clear gx_0 gx_f0 gx_1 gx_f1; obtain ⟨gx_0, gx_1, gx_f0, gx_f1⟩ := cz2_ gx_B.out; have gr_B := Aside0.mk hbox; obtain ⟨gr_0, gr_1, gr_f0, gr_f1⟩ := cz2_ hbox; replace HB := Aside0.mk (below_step HB.out hb); clear hbox hb hg_) | ((with_reducible refine gate_dst (N := 6) rfl ?_); (try (refine gate_guard (by rfl) ?_; dsimp only)); refine box_event (by rfl) (N := 6) (by rfl) (cs := #[.bool false, .slice none 0 0]) (t := 64) ?hrz348 ?_; (case hrz348 => first | (go_simp; done) | (go_simp; rfl)); intro gs hg_ wq347 hbox hb; have NE_gx_gs := nE1_ hg_ gx_B; have NE_gs_gx := nE2_ hg_ gx_B; have NE_gr_gs := nE1_ hg_ gr_B; have NE_gs_gr := nE2_ hg_ gr_B; have gs_G := gG_ hg_ HB; have t_ := pb13_ hb h0 h1 h2 h3 h4 h5 h6 h7 h8 h9 h10 h11 h12; clear h0 h1 h2 h3 h4 h5 h6 h7 h8 h9 h10 h11 h12; obtain ⟨h0, h1, h2, h3, h4, h5, h6, h7, h8, h9, h10, h11, h12⟩ := t_; replace gx_B := Aside0.mk (blk_below gx_B.out hb); clear gx_0 gx_f0 gx_1 gx_f1; obtain ⟨gx_0, gx_1, gx_f0, gx_f1⟩ := cz2_ gx_B.out; replace gr_B := Aside0.mk (blk_below gr_B.out hb); clear gr_0 gr_f0 gr_1 gr_f1; obtain ⟨gr_0, gr_1, gr_f0, gr_f1⟩ := cz2_ gr_B.out; have gs_B := Aside0.mk hbox; obtain ⟨gs_0, gs_1, gs_f0, gs_f1⟩ := cz2_ hbox; replace HB := Aside0.mk (below_step HB.out hb); clear hbox hb hg_) | ((with_reducible refine gate_store (p := 6) rfl ?_); refine st_all (g := gs) 6 [.bool true, .slice A5 c.f2.f3.length c5] ?ttz350 ?xxz350 ?uuz350 ?htz350 ?eez350 gs_B.out ?_; (case eez350 => and_intros <;> rfl); (case htz350 => kernel_rfl); intro wq349 hbox hO; have e_ := Nat.ne_of_lt (Nat.lt_of_lt_of_le hl gs_G.out); have t_ := on13_ hO h0 h1 h2 h3 h4 h5 h6 h7 h8 h9 h10 h11 h12 e_ e_ e_ e_ e_ e_ e_ e_ e_ e_ e_ e_ e_; clear e_ h0 h1 h2 h3 h4 h5 h6 h7 h8 h9 h10 h11 h12; obtain ⟨h0, h1, h2, h3, h4, h5, h6, h7, h8, h9, h10, h11, h12⟩ := t_; replace gx_B := Aside0.mk (hO.blk NE_gx_gs.out gx_B.out); clear gx_0 gx_f0 gx_1 gx_f1; obtain ⟨gx_0, gx_1, gx_f0, gx_f1⟩ := cz2_ gx_B.out; replace gr_B := Aside0.mk (hO.blk NE_gr_gs.out gr_B.out); clear gr_0 gr_f0 gr_1 gr_f1; obtain ⟨gr_0, gr_1, gr_f0, gr_f1⟩ := cz2_ gr_B.out; clear gs_B; clear gs_0 gs_f0 gs_1 gs_f1; have gs_B := Aside0.mk hbox; obtain ⟨gs_0, gs_1, gs_f0, gs_f1⟩ := cz2_ hbox; replace HB := Aside0.mk (hO.below HB.out gs_G.out); clear hbox hO) | (go_at_call 41; refine (known_calls c _ A5 c5 A6 c6 A10 c10 _ KN.out ?s0_z352 ?s1_z352 ?s2_z352).mono ?_; (case s0_z352 => with_reducible exact lC G5.out HB.out); (case s1_z352 => with_reducible exact lC G6.out HB.out); (case s2_z352 => with_reducible exact lC G10.out HB.out); rintro e wq351 ⟨rfl, hb⟩; have t_ := pb13_ hb h0 h1 h2 h3 h4 h5 h6 h7 h8 h9 h10 h11 h12; clear h0 h1 h2 h3 h4 h5 h6 h7 h8 h9 h10 h11 h12; obtain ⟨h0, h1, h2, h3, h4, h5, h6, h7, h8, h9, h10, h11, h12⟩ := t_; replace gx_B := Aside0.mk (blk_below gx_B.out hb); clear gx_0 gx_f0 gx_1 gx_f1; obtain ⟨gx_0, gx_1, gx_f0, gx_f1⟩ := cz2_ gx_B.out; replace gr_B := Aside0.mk (blk_below gr_B.out hb); clear gr_0 gr_f0 gr_1 gr_f1; obtain ⟨gr_0, gr_1, gr_f0, gr_f1⟩ := cz2_ gr_B.out; replace gs_B := Aside0.mk (blk_below gs_B.out hb); clear gs_0 gs_f0 gs_1 gs_f1; obtain ⟨gs_0, gs_1, gs_f0, gs_f1⟩ := cz2_ gs_B.out; replace HB := Aside0.mk (below_step HB.out hb); clear hb))
  refine start_w (n := 22) (S := fun w' => w'.cell? ⟨b, o, none⟩ = some (.int .u8 c.f0) ∧ w'.cell? ⟨b, o + 1, none⟩ = some (.int .u64 c.f1) ∧ w'.cell? ⟨b, o + 2, none⟩ = some (.int .u8 c.f2.f0) ∧ w'.cell? ⟨b, o + 3, none⟩ = some (.int .u64 c.f2.f1) ∧ w'.cell? ⟨b, o + 4, none⟩ = some (.int .u64 c.f2.f2) ∧ w'.cell? ⟨b, o + 5, none⟩ = some (.slice A5 c.f2.f3.length c5) ∧ w'.cell? ⟨b, o + 6, none⟩ = some (.slice A6 c.f2.f4.length c6) ∧ w'.cell? ⟨b, o + 7, none⟩ = some (.bool c.f2.f5) ∧ w'.cell? ⟨b, o + 8, none⟩ = some (.int .u8 c.f2.f6) ∧ w'.cell? ⟨b, o + 9, none⟩ = some (.int .u8 c.f3) ∧ w'.cell? ⟨b, o + 10, none⟩ = some (.slice A10 c.f4.length c10) ∧ w'.cell? ⟨b, o + 11, none⟩ = some (.int .i64 c.f5) ∧ w'.cell? ⟨b, o + 12, none⟩ = some (.int .i64 c.f6) ∧ w'.cell? ⟨gx, 0, none⟩ = some (.bool true) ∧ w'.cell? ⟨gx, 1, none⟩ = some (.slice Ax lx.length cx)) (ds := []) (bl_ 22 0) (by kernel_rfl) rfl rfl ?_
  intro wq353 hb
  have t_ := pb13_ hb h0 h1 h2 h3 h4 h5 h6 h7 h8 h9 h10 h11 h12
  clear h0 h1 h2 h3 h4 h5 h6 h7 h8 h9 h10 h11 h12
  obtain ⟨h0, h1, h2, h3, h4, h5, h6, h7, h8, h9, h10, h11, h12⟩ := t_
  replace gx_B := Aside0.mk (blk_below gx_B.out hb)
  clear gx_0 gx_f0 gx_1 gx_f1
  obtain ⟨gx_0, gx_1, gx_f0, gx_f1⟩ := cz2_ gx_B.out
  replace gr_B := Aside0.mk (blk_below gr_B.out hb)
  clear gr_0 gr_f0 gr_1 gr_f1
  obtain ⟨gr_0, gr_1, gr_f0, gr_f1⟩ := cz2_ gr_B.out
  replace gs_B := Aside0.mk (blk_below gs_B.out hb)
  clear gs_0 gs_f0 gs_1 gs_f1
  obtain ⟨gs_0, gs_1, gs_f0, gs_f1⟩ := cz2_ gs_B.out
  replace HB := Aside0.mk (below_step HB.out hb)
  clear hb
  refine pure_ (i := 0) (N := (some 34)) (v := ?_) (a' := ?_) (bl_ 22 1) rfl rfl (by kernel_rfl) (fun _ _ _ h => h) (Or.inl ⟨by rfl, ?_⟩) ?_ ?_
  rotate_left
  · intro w'; go_simp; with_reducible rfl
  rotate_left
  · simp only [Act.put, List.setIfInBounds_toArray, List.set_cons_zero, List.set_cons_succ, i64_w, i32_w]; rfl
  refine pure_ (i := 1) (N := (some 35)) (v := ?_) (a' := ?_) (bl_ 22 3) rfl rfl (by kernel_rfl) (fun _ _ _ h => h) (Or.inl ⟨by rfl, ?_⟩) ?_ ?_
  rotate_left
  · intro w'; go_simp; with_reducible rfl
  rotate_left
  · simp only [Act.put, List.setIfInBounds_toArray, List.set_cons_zero, List.set_cons_succ, i64_w, i32_w]; rfl
  refine take_ (i := 2) (N := (some 36)) (v := ?_) (a' := ?_) (bl_ 22 7) rfl rfl (by kernel_rfl) (fun _ _ _ h => h) (Or.inl ⟨by rfl, ?_⟩) ⟨h0, h1, h2, h3, h4, h5, h6, h7, h8, h9, h10, h11, h12, gx_0, gx_1⟩ ?_ ?_
  rotate_left
  · rintro w' ⟨s_0, s_1, s_2, s_3, s_4, s_5, s_6, s_7, s_8, s_9, s_10, s_11, s_12, s_13, s_14⟩; go_simp; with_reducible rfl
  rotate_left
  · simp only [Act.put, List.setIfInBounds_toArray, List.set_cons_zero, List.set_cons_succ, i64_w, i32_w]; rfl
  refine one_ (i := 3) (N := (some 37)) (bl_ 22 15) rfl rfl (by kernel_rfl) (by decide) (fun K hK => ?_)
  refine goes_ Try.func41 (by kernel_rfl) rfl ?arz354 (by rfl) rfl rfl ?harz354 ?hcz354
  case' hcz354 => refine (known_calls c _ A5 c5 A6 c6 A10 c10 _ KN.out ?s0_z356 ?s1_z356 ?s2_z356).mono ?_
  (case s0_z356 => with_reducible exact lC G5.out HB.out)
  (case s1_z356 => with_reducible exact lC G6.out HB.out)
  (case s2_z356 => with_reducible exact lC G10.out HB.out)
  rotate_left
  · first | rfl | (simp only [List.map_toArray, List.map_cons, List.map_nil]; rfl)
  rintro e wq355 ⟨rfl, hb⟩
  have t_ := pb13_ hb h0 h1 h2 h3 h4 h5 h6 h7 h8 h9 h10 h11 h12
  clear h0 h1 h2 h3 h4 h5 h6 h7 h8 h9 h10 h11 h12
  obtain ⟨h0, h1, h2, h3, h4, h5, h6, h7, h8, h9, h10, h11, h12⟩ := t_
  replace gx_B := Aside0.mk (blk_below gx_B.out hb)
  clear gx_0 gx_f0 gx_1 gx_f1
  obtain ⟨gx_0, gx_1, gx_f0, gx_f1⟩ := cz2_ gx_B.out
  replace gr_B := Aside0.mk (blk_below gr_B.out hb)
  clear gr_0 gr_f0 gr_1 gr_f1
  obtain ⟨gr_0, gr_1, gr_f0, gr_f1⟩ := cz2_ gr_B.out
  replace gs_B := Aside0.mk (blk_below gs_B.out hb)
  clear gs_0 gs_f0 gs_1 gs_f1
  obtain ⟨gs_0, gs_1, gs_f0, gs_f1⟩ := cz2_ gs_B.out
  replace HB := Aside0.mk (below_step HB.out hb)
  clear hb
  refine ⟨_, rfl, ?_⟩
  refine hK.out _ _ ⟨h0, h1, h2, h3, h4, h5, h6, h7, h8, h9, h10, h11, h12, gx_0, gx_1⟩ (fun _ => ?_)
  clear hK K
  refine norm_ (a' := ?_) ?_ ?_
  rotate_left
  · show Act.put _ (some 37) _ = _; simp only [Act.put, List.setIfInBounds_toArray, List.set_cons_zero, List.set_cons_succ, i64_w, i32_w]; rfl
  refine pure_ (i := 4) (N := (some 38)) (v := ?_) (a' := ?_) (bl_ 22 31) rfl rfl (by kernel_rfl) (fun _ _ _ h => h) (Or.inl ⟨by rfl, ?_⟩) ?_ ?_
  rotate_left
  · intro w'; go_simp; with_reducible rfl
  rotate_left
  · simp only [Act.put, List.setIfInBounds_toArray, List.set_cons_zero, List.set_cons_succ, i64_w, i32_w]; rfl
  refine pure_ (i := 5) (N := (some 39)) (v := ?_) (a' := ?_) (bl_ 22 63) rfl rfl (by kernel_rfl) (fun _ _ _ h => h) (Or.inl ⟨by rfl, ?_⟩) ?_ ?_
  rotate_left
  · intro w'; go_simp; with_reducible rfl
  rotate_left
  · simp only [Act.put, List.setIfInBounds_toArray, List.set_cons_zero, List.set_cons_succ, i64_w, i32_w]; rfl
  refine pure_ (i := 6) (N := (some 40)) (v := ?_) (a' := ?_) (bl_ 22 127) rfl rfl (by kernel_rfl) (fun _ _ _ h => h) (Or.inl ⟨by rfl, ?_⟩) ?_ ?_
  rotate_left
  · intro w'; go_simp; with_reducible rfl
  rotate_left
  · simp only [Act.put, List.setIfInBounds_toArray, List.set_cons_zero, List.set_cons_succ, i64_w, i32_w]; rfl
  refine take_ (i := 7) (N := (some 41)) (v := ?_) (a' := ?_) (bl_ 22 255) rfl rfl (by kernel_rfl) (fun _ _ _ h => h) (Or.inl ⟨by rfl, ?_⟩) ⟨h0, h1, h2, h3, h4, h5, h6, h7, h8, h9, h10, h11, h12, gx_0, gx_1⟩ ?_ ?_
  rotate_left
  · rintro w' ⟨s_0, s_1, s_2, s_3, s_4, s_5, s_6, s_7, s_8, s_9, s_10, s_11, s_12, s_13, s_14⟩; go_simp; with_reducible rfl
  rotate_left
  · simp only [Act.put, List.setIfInBounds_toArray, List.set_cons_zero, List.set_cons_succ, i64_w, i32_w]; rfl
  refine pure_ (i := 8) (N := (some 42)) (v := ?_) (a' := ?_) (bl_ 22 511) rfl rfl (by kernel_rfl) (fun _ _ _ h => h) (Or.inl ⟨by rfl, ?_⟩) ?_ ?_
  rotate_left
  · intro w'; go_simp; with_reducible rfl
  rotate_left
  · simp only [Act.put, List.setIfInBounds_toArray, List.set_cons_zero, List.set_cons_succ, i64_w, i32_w]; rfl
  refine pure_ (i := 9) (N := (some 43)) (v := ?_) (a' := ?_) (bl_ 22 1023) rfl rfl (by kernel_rfl) (fun _ _ _ h => h) (Or.inl ⟨by rfl, ?_⟩) ?_ ?_
  rotate_left
  · intro w'; go_simp; with_reducible rfl
  rotate_left
  · simp only [Act.put, List.setIfInBounds_toArray, List.set_cons_zero, List.set_cons_succ, i64_w, i32_w]; rfl
  refine pure_ (i := 10) (N := (some 44)) (v := ?_) (a' := ?_) (bl_ 22 2047) rfl rfl (by kernel_rfl) (fun _ _ _ h => h) (Or.inl ⟨by rfl, ?_⟩) ?_ ?_
  rotate_left
  · intro w'; go_simp; with_reducible rfl
  rotate_left
  · simp only [Act.put, List.setIfInBounds_toArray, List.set_cons_zero, List.set_cons_succ, i64_w, i32_w]; rfl
  refine pure_ (i := 11) (N := (some 45)) (v := ?_) (a' := ?_) (bl_ 22 4095) rfl rfl (by kernel_rfl) (fun _ _ _ h => h) (Or.inl ⟨by rfl, ?_⟩) ?_ ?_
  rotate_left
  · intro w'; go_simp; with_reducible rfl
  rotate_left
  · simp only [Act.put, List.setIfInBounds_toArray, List.set_cons_zero, List.set_cons_succ, i64_w, i32_w]; rfl
  refine pure_ (i := 13) (N := (some 47)) (v := ?_) (a' := ?_) (bl_ 22 12287) rfl rfl (by kernel_rfl) (fun _ _ _ h => h) (Or.inl ⟨by rfl, ?_⟩) ?_ ?_
  rotate_left
  · intro w'; go_simp; with_reducible rfl
  rotate_left
  · simp only [Act.put, List.setIfInBounds_toArray, List.set_cons_zero, List.set_cons_succ, i64_w, i32_w]; rfl
  refine pure_ (i := 14) (N := (some 48)) (v := ?_) (a' := ?_) (bl_ 22 28671) rfl rfl (by kernel_rfl) (fun _ _ _ h => h) (Or.inl ⟨by rfl, ?_⟩) ?_ ?_
  rotate_left
  · intro w'; go_simp; with_reducible rfl
  rotate_left
  · simp only [Act.put, List.setIfInBounds_toArray, List.set_cons_zero, List.set_cons_succ, i64_w, i32_w]; rfl
  refine pure_ (i := 15) (N := (some 49)) (v := ?_) (a' := ?_) (bl_ 22 61439) rfl rfl (by kernel_rfl) (fun _ _ _ h => h) (Or.inl ⟨by rfl, ?_⟩) ?_ ?_
  rotate_left
  · intro w'; go_simp; with_reducible rfl
  rotate_left
  · simp only [Act.put, List.setIfInBounds_toArray, List.set_cons_zero, List.set_cons_succ, i64_w, i32_w]; rfl
  refine take_ (i := 12) (N := (some 46)) (v := ?_) (a' := ?_) (bl_ 22 65535) rfl rfl (by kernel_rfl) (fun _ _ _ h => h) (Or.inl ⟨by rfl, ?_⟩) ⟨h0, h1, h2, h3, h4, h5, h6, h7, h8, h9, h10, h11, h12, gx_0, gx_1⟩ ?_ ?_
  rotate_left
  · rintro w' ⟨s_0, s_1, s_2, s_3, s_4, s_5, s_6, s_7, s_8, s_9, s_10, s_11, s_12, s_13, s_14⟩; go_simp; with_reducible rfl
  rotate_left
  · simp only [Act.put, List.setIfInBounds_toArray, List.set_cons_zero, List.set_cons_succ, i64_w, i32_w]; rfl
  refine take_ (i := 16) (N := (some 50)) (v := ?_) (a' := ?_) (bl_ 22 131071) rfl rfl (by kernel_rfl) (fun _ _ _ h => h) (Or.inl ⟨by rfl, ?_⟩) ⟨h0, h1, h2, h3, h4, h5, h6, h7, h8, h9, h10, h11, h12, gx_0, gx_1⟩ ?_ ?_
  rotate_left
  · rintro w' ⟨s_0, s_1, s_2, s_3, s_4, s_5, s_6, s_7, s_8, s_9, s_10, s_11, s_12, s_13, s_14⟩; go_simp; with_reducible rfl
  rotate_left
  · simp only [Act.put, List.setIfInBounds_toArray, List.set_cons_zero, List.set_cons_succ, i64_w, i32_w]; rfl
  refine one_ (i := 17) (N := (some 51)) (bl_ 22 262143) rfl rfl (by kernel_rfl) (by decide) (fun K hK => ?_)
  refine goes_ Try.func50 (by kernel_rfl) rfl ?arz357 (by rfl) rfl rfl ?harz357 ?hcz357
  case' hcz357 => refine (cell_is_calls true (.slice Ax lx.length cx) lx (.slice A10 c.f4.length c10) c.f4 _ ?s0_z359 ?s1_z359).mono ?_
  (case s0_z359 => with_reducible exact lR GX.out HB.out)
  (case s1_z359 => with_reducible exact lR G10.out HB.out)
  rotate_left
  · first | rfl | (simp only [List.map_toArray, List.map_cons, List.map_nil]; rfl)
  rintro e wq358 ⟨rfl, hb⟩
  have t_ := pb13_ hb h0 h1 h2 h3 h4 h5 h6 h7 h8 h9 h10 h11 h12
  clear h0 h1 h2 h3 h4 h5 h6 h7 h8 h9 h10 h11 h12
  obtain ⟨h0, h1, h2, h3, h4, h5, h6, h7, h8, h9, h10, h11, h12⟩ := t_
  replace gx_B := Aside0.mk (blk_below gx_B.out hb)
  clear gx_0 gx_f0 gx_1 gx_f1
  obtain ⟨gx_0, gx_1, gx_f0, gx_f1⟩ := cz2_ gx_B.out
  replace gr_B := Aside0.mk (blk_below gr_B.out hb)
  clear gr_0 gr_f0 gr_1 gr_f1
  obtain ⟨gr_0, gr_1, gr_f0, gr_f1⟩ := cz2_ gr_B.out
  replace gs_B := Aside0.mk (blk_below gs_B.out hb)
  clear gs_0 gs_f0 gs_1 gs_f1
  obtain ⟨gs_0, gs_1, gs_f0, gs_f1⟩ := cz2_ gs_B.out
  replace HB := Aside0.mk (below_step HB.out hb)
  clear hb
  (simp only [F2.out])
  refine ⟨_, rfl, ?_⟩
  refine hK.out _ _ ⟨h0, h1, h2, h3, h4, h5, h6, h7, h8, h9, h10, h11, h12, gx_0, gx_1⟩ (fun _ => ?_)
  clear hK K
  refine norm_ (a' := ?_) ?_ ?_
  rotate_left
  · show Act.put _ (some 51) _ = _; simp only [Act.put, List.setIfInBounds_toArray, List.set_cons_zero, List.set_cons_succ, i64_w, i32_w]; rfl
  refine pure_ (i := 18) (N := (some 52)) (v := ?_) (a' := ?_) (bl_ 22 524287) rfl rfl (by kernel_rfl) (fun _ _ _ h => h) (Or.inl ⟨by rfl, ?_⟩) ?_ ?_
  rotate_left
  · intro w'; go_simp; with_reducible rfl
  rotate_left
  · simp only [Act.put, List.setIfInBounds_toArray, List.set_cons_zero, List.set_cons_succ, i64_w, i32_w]; rfl
  refine pure_ (i := 19) (N := (some 53)) (v := ?_) (a' := ?_) (bl_ 22 1048575) rfl rfl (by kernel_rfl) (fun _ _ _ h => h) (Or.inl ⟨by rfl, ?_⟩) ?_ ?_
  rotate_left
  · intro w'; go_simp; with_reducible rfl
  rotate_left
  · simp only [Act.put, List.setIfInBounds_toArray, List.set_cons_zero, List.set_cons_succ, i64_w, i32_w]; rfl
  refine pure_ (i := 20) (N := (some 54)) (v := ?_) (a' := ?_) (bl_ 22 2097151) rfl rfl (by kernel_rfl) (fun _ _ _ h => h) (Or.inl ⟨by rfl, ?_⟩) ?_ ?_
  rotate_left
  · intro w'; go_simp; with_reducible rfl
  rotate_left
  · simp only [Act.put, List.setIfInBounds_toArray, List.set_cons_zero, List.set_cons_succ, i64_w, i32_w]; rfl
  refine pure_ (i := 21) (N := (some 55)) (v := ?_) (a' := ?_) (bl_ 22 4194303) rfl rfl (by kernel_rfl) (fun _ _ _ h => h) (Or.inl ⟨by rfl, ?_⟩) ?_ ?_
  rotate_left
  · intro w'; go_simp; with_reducible rfl
  rotate_left
  · simp only [Act.put, List.setIfInBounds_toArray, List.set_cons_zero, List.set_cons_succ, i64_w, i32_w]; rfl
  refine done_ (by kernel_rfl) ?_
  go_wp2_with (first | ((with_reducible refine gate_store (p := 4) rfl ?_); refine st_all (g := gr) 4 [.bool false, .slice none 0 0] ?ttz361 ?xxz361 ?uuz361 ?htz361 ?eez361 gr_B.out ?_; (case eez361 => and_intros <;> rfl); (case htz361 => kernel_rfl); intro wq360 hbox hO; have e_ := Nat.ne_of_lt (Nat.lt_of_lt_of_le hl gr_G.out); have t_ := on13_ hO h0 h1 h2 h3 h4 h5 h6 h7 h8 h9 h10 h11 h12 e_ e_ e_ e_ e_ e_ e_ e_ e_ e_ e_ e_ e_; clear e_ h0 h1 h2 h3 h4 h5 h6 h7 h8 h9 h10 h11 h12; obtain ⟨h0, h1, h2, h3, h4, h5, h6, h7, h8, h9, h10, h11, h12⟩ := t_; replace gx_B := Aside0.mk (hO.blk NE_gx_gr.out gx_B.out); clear gx_0 gx_f0 gx_1 gx_f1; obtain ⟨gx_0, gx_1, gx_f0, gx_f1⟩ := cz2_ gx_B.out; replace gs_B := Aside0.mk (hO.blk NE_gs_gr.out gs_B.out); clear gs_0 gs_f0 gs_1 gs_f1; obtain ⟨gs_0, gs_1, gs_f0, gs_f1⟩ := cz2_ gs_B.out; clear gr_B; clear gr_0 gr_f0 gr_1 gr_f1; have gr_B := Aside0.mk hbox; obtain ⟨gr_0, gr_1, gr_f0, gr_f1⟩ := cz2_ hbox; replace HB := Aside0.mk (hO.below HB.out gr_G.out); clear hbox hO))
  refine bodyPost_ret (results_ct rfl _ _ gr 64 #[.bool false, .slice none 0 0] (0, 0) _ rfl gr_B.out Try.underlying64 rfl (by kernel_rfl)) rfl ?_
  exact ⟨by first | rfl | (cases true <;> rfl), HB.out⟩
set_option maxHeartbeats 8000000 in
set_option maxRecDepth 100000 in
theorem play_cas_s (b o : Nat) (c : S30) (Ax : Option Addr) (cx : Nat) (lx : List Int) (A5 : Option Addr) (c5 : Nat) (A6 : Option Addr) (c6 : Nat) (A10 : Option Addr) (c10 : Nat) (w : World) (kn : Bool) (xh : Bool) (hp : PtCall w b o c A5 c5 A6 c6 A10 c10) (hx : lx.length ≤ cx ∧ Kd.C (Kd.int .u8) w Ax lx.length lx) (hk : (c.f6 != -1) = kn) (f0 : (c.f2.f0 == 1) = false) (f1 : (c.f2.f0 == 2) = false) (f2 : (c.f2.f0 == 3) = false) (f3 : (c.f2.f0 == 4) = true) (f4 : (c.f3 == 1) = true) (f5 : expectedV c.f2.f5 c.f2.f4 xh lx = true) :
    Calls Try.prog 29 #[.pointer (some ⟨b, o, none⟩), .agg #[.bool xh, .slice Ax lx.length cx]] w fun e w' => e = .returned (.tuple #[.agg #[.bool true, .slice A5 c.f2.f3.length c5], .bool (true)]) ∧ Below w.heap.size w w' := by
  obtain ⟨h0, h1, h2, h3, h4, h5, h6, h7, h8, h9, h10, h11, h12, g5, g6, g10⟩ := hp
  have hl := World.block_lt_of_cell? w _ h0
  have G5 := Aside0.mk g5
  have G6 := Aside0.mk g6
  have G10 := Aside0.mk g10
  have GX := Aside0.mk hx
  have KN := Aside0.mk hk
  have HB := Aside0.mk (Below.refl w.heap.size w)
  have hu := Try.underlying64
  have hu30 := Try.underlying30
  clear g5 g6 g10 hx hk
  have F5 := Aside0.mk f5
  clear f5
  go_enter Try.func29, Try.ntmps29
  
  go_wp2_with (first | ((with_reducible refine gate_dst (N := 3) rfl ?_); (try (refine gate_guard (by rfl) ?_; dsimp only)); refine box_event (by rfl) (N := 3) (by rfl) (cs := #[.bool xh, .slice Ax lx.length cx]) (t := 64) ?hrz363 ?_; (case hrz363 => first | (go_simp; done) | (go_simp; rfl)); intro gx hg_ wq362 hbox hb; have gx_G := gG_ hg_ HB; have t_ := pb13_ hb h0 h1 h2 h3 h4 h5 h6 h7 h8 h9 h10 h11 h12; clear h0 h1 h2 h3 h4 h5 h6 h7 h8 h9 h10 h11 h12; obtain ⟨h0, h1, h2, h3, h4, h5, h6, h7, h8, h9, h10, h11, h12⟩ := t_; have gx_B := Aside0.mk hbox; obtain ⟨gx_0, gx_1, gx_f0, gx_f1⟩ := cz2_ hbox; replace HB := Aside0.mk (below_step HB.out hb); clear hbox hb hg_) | ((with_reducible refine gate_dst (N := 4) rfl ?_); (try (refine gate_guard (by rfl) ?_; dsimp only)); refine box_event (by rfl) (N := 4) (by rfl) (cs := #[.bool false, .slice none 0 0]) (t := 64) ?hrz365 ?_; (case hrz365 => first | (go_simp; done) | (go_simp; rfl)); intro gr hg_ wq364 hbox hb; have NE_gx_gr := nE1_ hg_ gx_B; have NE_gr_gx := nE2_ hg_ gx_B; have gr_G := gG_ hg_ HB; have t_ := pb13_ hb h0 h1 h2 h3 h4 h5 h6 h7 h8 h9 h10 h11 h12; clear h0 h1 h2 h3 h4 h5 h6 h7 h8 h9 h10 h11 h12; obtain ⟨h0, h1, h2, h3, h4, h5, h6, h7, h8, h9, h10, h11, h12⟩ := t_; replace gx_B := Aside0.mk (blk_below gx_B.out hb); clear gx_0 gx_f0 gx_1 gx_f1; obtain ⟨gx_0, gx_1, gx_f0, gx_f1⟩ := cz2_ gx_B.out; have gr_B := Aside0.mk hbox; obtain ⟨gr_0, gr_1, gr_f0, gr_f1⟩ := cz2_ hbox; replace HB := Aside0.mk (below_step HB.out hb); clear hbox hb hg_) | ((with_reducible refine gate_dst (N := 6) rfl ?_); (try (refine gate_guard (by rfl) ?_; dsimp only)); refine box_event (by rfl) (N := 6) (by rfl) (cs := #[.bool false, .slice none 0 0]) (t := 64) ?hrz367 ?_; (case hrz367 => first | (go_simp; done) | (go_simp; rfl)); intro gs hg_ wq366 hbox hb; have NE_gx_gs := nE1_ hg_ gx_B; have NE_gs_gx := nE2_ hg_ gx_B; have NE_gr_gs := nE1_ hg_ gr_B; have NE_gs_gr := nE2_ hg_ gr_B; have gs_G := gG_ hg_ HB; have t_ := pb13_ hb h0 h1 h2 h3 h4 h5 h6 h7 h8 h9 h10 h11 h12; clear h0 h1 h2 h3 h4 h5 h6 h7 h8 h9 h10 h11 h12; obtain ⟨h0, h1, h2, h3, h4, h5, h6, h7, h8, h9, h10, h11, h12⟩ := t_; replace gx_B := Aside0.mk (blk_below gx_B.out hb); clear gx_0 gx_f0 gx_1 gx_f1; obtain ⟨gx_0, gx_1, gx_f0, gx_f1⟩ := cz2_ gx_B.out; replace gr_B := Aside0.mk (blk_below gr_B.out hb); clear gr_0 gr_f0 gr_1 gr_f1; obtain ⟨gr_0, gr_1, gr_f0, gr_f1⟩ := cz2_ gr_B.out; have gs_B := Aside0.mk hbox; obtain ⟨gs_0, gs_1, gs_f0, gs_f1⟩ := cz2_ hbox; replace HB := Aside0.mk (below_step HB.out hb); clear hbox hb hg_) | ((with_reducible refine gate_store (p := 6) rfl ?_); refine st_all (g := gs) 6 [.bool true, .slice A5 c.f2.f3.length c5] ?ttz369 ?xxz369 ?uuz369 ?htz369 ?eez369 gs_B.out ?_; (case eez369 => and_intros <;> rfl); (case htz369 => kernel_rfl); intro wq368 hbox hO; have e_ := Nat.ne_of_lt (Nat.lt_of_lt_of_le hl gs_G.out); have t_ := on13_ hO h0 h1 h2 h3 h4 h5 h6 h7 h8 h9 h10 h11 h12 e_ e_ e_ e_ e_ e_ e_ e_ e_ e_ e_ e_ e_; clear e_ h0 h1 h2 h3 h4 h5 h6 h7 h8 h9 h10 h11 h12; obtain ⟨h0, h1, h2, h3, h4, h5, h6, h7, h8, h9, h10, h11, h12⟩ := t_; replace gx_B := Aside0.mk (hO.blk NE_gx_gs.out gx_B.out); clear gx_0 gx_f0 gx_1 gx_f1; obtain ⟨gx_0, gx_1, gx_f0, gx_f1⟩ := cz2_ gx_B.out; replace gr_B := Aside0.mk (hO.blk NE_gr_gs.out gr_B.out); clear gr_0 gr_f0 gr_1 gr_f1; obtain ⟨gr_0, gr_1, gr_f0, gr_f1⟩ := cz2_ gr_B.out; clear gs_B; clear gs_0 gs_f0 gs_1 gs_f1; have gs_B := Aside0.mk hbox; obtain ⟨gs_0, gs_1, gs_f0, gs_f1⟩ := cz2_ hbox; replace HB := Aside0.mk (hO.below HB.out gs_G.out); clear hbox hO) | (go_at_call 41; refine (known_calls c _ A5 c5 A6 c6 A10 c10 _ KN.out ?s0_z371 ?s1_z371 ?s2_z371).mono ?_; (case s0_z371 => with_reducible exact lC G5.out HB.out); (case s1_z371 => with_reducible exact lC G6.out HB.out); (case s2_z371 => with_reducible exact lC G10.out HB.out); rintro e wq370 ⟨rfl, hb⟩; have t_ := pb13_ hb h0 h1 h2 h3 h4 h5 h6 h7 h8 h9 h10 h11 h12; clear h0 h1 h2 h3 h4 h5 h6 h7 h8 h9 h10 h11 h12; obtain ⟨h0, h1, h2, h3, h4, h5, h6, h7, h8, h9, h10, h11, h12⟩ := t_; replace gx_B := Aside0.mk (blk_below gx_B.out hb); clear gx_0 gx_f0 gx_1 gx_f1; obtain ⟨gx_0, gx_1, gx_f0, gx_f1⟩ := cz2_ gx_B.out; replace gr_B := Aside0.mk (blk_below gr_B.out hb); clear gr_0 gr_f0 gr_1 gr_f1; obtain ⟨gr_0, gr_1, gr_f0, gr_f1⟩ := cz2_ gr_B.out; replace gs_B := Aside0.mk (blk_below gs_B.out hb); clear gs_0 gs_f0 gs_1 gs_f1; obtain ⟨gs_0, gs_1, gs_f0, gs_f1⟩ := cz2_ gs_B.out; replace HB := Aside0.mk (below_step HB.out hb); clear hb))
  refine start_w (n := 6) (S := fun w' => w'.cell? ⟨b, o, none⟩ = some (.int .u8 c.f0) ∧ w'.cell? ⟨b, o + 1, none⟩ = some (.int .u64 c.f1) ∧ w'.cell? ⟨b, o + 2, none⟩ = some (.int .u8 c.f2.f0) ∧ w'.cell? ⟨b, o + 3, none⟩ = some (.int .u64 c.f2.f1) ∧ w'.cell? ⟨b, o + 4, none⟩ = some (.int .u64 c.f2.f2) ∧ w'.cell? ⟨b, o + 5, none⟩ = some (.slice A5 c.f2.f3.length c5) ∧ w'.cell? ⟨b, o + 6, none⟩ = some (.slice A6 c.f2.f4.length c6) ∧ w'.cell? ⟨b, o + 7, none⟩ = some (.bool c.f2.f5) ∧ w'.cell? ⟨b, o + 8, none⟩ = some (.int .u8 c.f2.f6) ∧ w'.cell? ⟨b, o + 9, none⟩ = some (.int .u8 c.f3) ∧ w'.cell? ⟨b, o + 10, none⟩ = some (.slice A10 c.f4.length c10) ∧ w'.cell? ⟨b, o + 11, none⟩ = some (.int .i64 c.f5) ∧ w'.cell? ⟨b, o + 12, none⟩ = some (.int .i64 c.f6) ∧ w'.cell? ⟨gx, 0, none⟩ = some (.bool xh) ∧ w'.cell? ⟨gx, 1, none⟩ = some (.slice Ax lx.length cx)) (ds := []) #[false, false, false, false, false, false] (by kernel_rfl) rfl rfl ?_
  intro wq372 hb
  have t_ := pb13_ hb h0 h1 h2 h3 h4 h5 h6 h7 h8 h9 h10 h11 h12
  clear h0 h1 h2 h3 h4 h5 h6 h7 h8 h9 h10 h11 h12
  obtain ⟨h0, h1, h2, h3, h4, h5, h6, h7, h8, h9, h10, h11, h12⟩ := t_
  replace gx_B := Aside0.mk (blk_below gx_B.out hb)
  clear gx_0 gx_f0 gx_1 gx_f1
  obtain ⟨gx_0, gx_1, gx_f0, gx_f1⟩ := cz2_ gx_B.out
  replace gr_B := Aside0.mk (blk_below gr_B.out hb)
  clear gr_0 gr_f0 gr_1 gr_f1
  obtain ⟨gr_0, gr_1, gr_f0, gr_f1⟩ := cz2_ gr_B.out
  replace gs_B := Aside0.mk (blk_below gs_B.out hb)
  clear gs_0 gs_f0 gs_1 gs_f1
  obtain ⟨gs_0, gs_1, gs_f0, gs_f1⟩ := cz2_ gs_B.out
  replace HB := Aside0.mk (below_step HB.out hb)
  clear hb
  refine pure_ (i := 0) (N := (some 82)) (v := ?_) (a' := ?_) #[true, false, false, false, false, false] rfl rfl (by kernel_rfl) (fun _ _ _ h => h) (Or.inl ⟨by rfl, ?_⟩) ?_ ?_
  rotate_left
  · intro w'; go_simp; with_reducible rfl
  rotate_left
  · simp only [Act.put, List.setIfInBounds_toArray, List.set_cons_zero, List.set_cons_succ, i64_w, i32_w]; rfl
  refine pure_ (i := 1) (N := (some 83)) (v := ?_) (a' := ?_) #[true, true, false, false, false, false] rfl rfl (by kernel_rfl) (fun _ _ _ h => h) (Or.inl ⟨by rfl, ?_⟩) ?_ ?_
  rotate_left
  · intro w'; go_simp; with_reducible rfl
  rotate_left
  · simp only [Act.put, List.setIfInBounds_toArray, List.set_cons_zero, List.set_cons_succ, i64_w, i32_w]; rfl
  refine pure_ (i := 2) (N := (some 84)) (v := ?_) (a' := ?_) #[true, true, true, false, false, false] rfl rfl (by kernel_rfl) (fun _ _ _ h => h) (Or.inl ⟨by rfl, ?_⟩) ?_ ?_
  rotate_left
  · intro w'; go_simp; with_reducible rfl
  rotate_left
  · simp only [Act.put, List.setIfInBounds_toArray, List.set_cons_zero, List.set_cons_succ, i64_w, i32_w]; rfl
  refine take_ (i := 3) (N := (some 85)) (v := ?_) (a' := ?_) #[true, true, true, true, false, false] rfl rfl (by kernel_rfl) (fun _ _ _ h => h) (Or.inl ⟨by rfl, ?_⟩) ⟨h0, h1, h2, h3, h4, h5, h6, h7, h8, h9, h10, h11, h12, gx_0, gx_1⟩ ?_ ?_
  rotate_left
  · rintro w' ⟨s_0, s_1, s_2, s_3, s_4, s_5, s_6, s_7, s_8, s_9, s_10, s_11, s_12, s_13, s_14⟩; go_simp; with_reducible rfl
  rotate_left
  · simp only [Act.put, List.setIfInBounds_toArray, List.set_cons_zero, List.set_cons_succ, i64_w, i32_w]; rfl
  refine one_ (i := 4) (N := (some 86)) #[true, true, true, true, true, false] rfl rfl (by kernel_rfl) (by decide) (fun K hK => ?_)
  refine goes_ Try.func51 (by kernel_rfl) rfl ?arz373 (by rfl) rfl rfl ?harz373 ?hcz373
  case' hcz373 => refine (expected_calls b (o + 2) c.f2.f5 (.slice A6 c.f2.f4.length c6) c.f2.f4 xh (.slice Ax lx.length cx) lx _ ?s0_z375 ?s1_z375 ?s2_z375 ?s3_z375).mono ?_
  (case s0_z375 => exact h7)
  (case s1_z375 => exact h6)
  (case s2_z375 => with_reducible exact lR G6.out HB.out)
  (case s3_z375 => with_reducible exact lR GX.out HB.out)
  rotate_left
  · first | rfl | (simp only [List.map_toArray, List.map_cons, List.map_nil]; rfl)
  rintro e wq374 ⟨rfl, hb⟩
  have t_ := pb13_ hb h0 h1 h2 h3 h4 h5 h6 h7 h8 h9 h10 h11 h12
  clear h0 h1 h2 h3 h4 h5 h6 h7 h8 h9 h10 h11 h12
  obtain ⟨h0, h1, h2, h3, h4, h5, h6, h7, h8, h9, h10, h11, h12⟩ := t_
  replace gx_B := Aside0.mk (blk_below gx_B.out hb)
  clear gx_0 gx_f0 gx_1 gx_f1
  obtain ⟨gx_0, gx_1, gx_f0, gx_f1⟩ := cz2_ gx_B.out
  replace gr_B := Aside0.mk (blk_below gr_B.out hb)
  clear gr_0 gr_f0 gr_1 gr_f1
  obtain ⟨gr_0, gr_1, gr_f0, gr_f1⟩ := cz2_ gr_B.out
  replace gs_B := Aside0.mk (blk_below gs_B.out hb)
  clear gs_0 gs_f0 gs_1 gs_f1
  obtain ⟨gs_0, gs_1, gs_f0, gs_f1⟩ := cz2_ gs_B.out
  replace HB := Aside0.mk (below_step HB.out hb)
  clear hb
  (simp only [F5.out])
  refine ⟨_, rfl, ?_⟩
  refine hK.out _ _ ⟨h0, h1, h2, h3, h4, h5, h6, h7, h8, h9, h10, h11, h12, gx_0, gx_1⟩ (fun _ => ?_)
  clear hK K
  refine norm_ (a' := ?_) ?_ ?_
  rotate_left
  · show Act.put _ (some 86) _ = _; simp only [Act.put, List.setIfInBounds_toArray, List.set_cons_zero, List.set_cons_succ, i64_w, i32_w]; rfl
  refine pure_ (i := 5) (N := (some 8)) (v := ?_) (a' := ?_) #[true, true, true, true, true, true] rfl rfl (by kernel_rfl) (fun _ _ _ h => h) (Or.inl ⟨by rfl, ?_⟩) ?_ ?_
  rotate_left
  · intro w'; go_simp; with_reducible rfl
  rotate_left
  · simp only [Act.put, List.setIfInBounds_toArray, List.set_cons_zero, List.set_cons_succ, i64_w, i32_w]; rfl
  refine done_ (by kernel_rfl) ?_
  go_wp2_with (first | (go_at_call 41; refine (known_calls c _ A5 c5 A6 c6 A10 c10 _ KN.out ?s0_z377 ?s1_z377 ?s2_z377).mono ?_; (case s0_z377 => with_reducible exact lC G5.out HB.out); (case s1_z377 => with_reducible exact lC G6.out HB.out); (case s2_z377 => with_reducible exact lC G10.out HB.out); rintro e wq376 ⟨rfl, hb⟩; have t_ := pb13_ hb h0 h1 h2 h3 h4 h5 h6 h7 h8 h9 h10 h11 h12; clear h0 h1 h2 h3 h4 h5 h6 h7 h8 h9 h10 h11 h12; obtain ⟨h0, h1, h2, h3, h4, h5, h6, h7, h8, h9, h10, h11, h12⟩ := t_; replace gx_B := Aside0.mk (blk_below gx_B.out hb); clear gx_0 gx_f0 gx_1 gx_f1; obtain ⟨gx_0, gx_1, gx_f0, gx_f1⟩ := cz2_ gx_B.out; replace gr_B := Aside0.mk (blk_below gr_B.out hb); clear gr_0 gr_f0 gr_1 gr_f1; obtain ⟨gr_0, gr_1, gr_f0, gr_f1⟩ := cz2_ gr_B.out; replace gs_B := Aside0.mk (blk_below gs_B.out hb); clear gs_0 gs_f0 gs_1 gs_f1; obtain ⟨gs_0, gs_1, gs_f0, gs_f1⟩ := cz2_ gs_B.out; replace HB := Aside0.mk (below_step HB.out hb); clear hb) | ((with_reducible refine gate_store (p := 4) rfl ?_); refine st_all (g := gr) 4 [.bool true, .slice A5 c.f2.f3.length c5] ?ttz379 ?xxz379 ?uuz379 ?htz379 ?eez379 gr_B.out ?_; (case eez379 => and_intros <;> rfl); (case htz379 => kernel_rfl); intro wq378 hbox hO; have e_ := Nat.ne_of_lt (Nat.lt_of_lt_of_le hl gr_G.out); have t_ := on13_ hO h0 h1 h2 h3 h4 h5 h6 h7 h8 h9 h10 h11 h12 e_ e_ e_ e_ e_ e_ e_ e_ e_ e_ e_ e_ e_; clear e_ h0 h1 h2 h3 h4 h5 h6 h7 h8 h9 h10 h11 h12; obtain ⟨h0, h1, h2, h3, h4, h5, h6, h7, h8, h9, h10, h11, h12⟩ := t_; replace gx_B := Aside0.mk (hO.blk NE_gx_gr.out gx_B.out); clear gx_0 gx_f0 gx_1 gx_f1; obtain ⟨gx_0, gx_1, gx_f0, gx_f1⟩ := cz2_ gx_B.out; replace gs_B := Aside0.mk (hO.blk NE_gs_gr.out gs_B.out); clear gs_0 gs_f0 gs_1 gs_f1; obtain ⟨gs_0, gs_1, gs_f0, gs_f1⟩ := cz2_ gs_B.out; clear gr_B; clear gr_0 gr_f0 gr_1 gr_f1; have gr_B := Aside0.mk hbox; obtain ⟨gr_0, gr_1, gr_f0, gr_f1⟩ := cz2_ hbox; replace HB := Aside0.mk (hO.below HB.out gr_G.out); clear hbox hO))
  refine bodyPost_ret (results_ct rfl _ _ gr 64 #[.bool true, .slice A5 c.f2.f3.length c5] (0, 0) _ rfl gr_B.out Try.underlying64 rfl (by kernel_rfl)) rfl ?_
  exact ⟨by first | rfl | (cases xh <;> rfl), HB.out⟩
set_option maxHeartbeats 8000000 in
set_option maxRecDepth 100000 in
theorem play_cas_dff (b o : Nat) (c : S30) (Ax : Option Addr) (cx : Nat) (lx : List Int) (A5 : Option Addr) (c5 : Nat) (A6 : Option Addr) (c6 : Nat) (A10 : Option Addr) (c10 : Nat) (w : World) (xh : Bool) (hp : PtCall w b o c A5 c5 A6 c6 A10 c10) (hx : lx.length ≤ cx ∧ Kd.C (Kd.int .u8) w Ax lx.length lx) (hk : (c.f6 != -1) = true) (f0 : (c.f2.f0 == 1) = false) (f1 : (c.f2.f0 == 2) = false) (f2 : (c.f2.f0 == 3) = false) (f3 : (c.f2.f0 == 4) = true) (f4 : (c.f3 == 1) = false) (f5 : expectedV c.f2.f5 c.f2.f4 xh lx = false) (f6 : (c.f3 == 3) = true) :
    Calls Try.prog 29 #[.pointer (some ⟨b, o, none⟩), .agg #[.bool xh, .slice Ax lx.length cx]] w fun e w' => e = .returned (.tuple #[.agg #[.bool xh, .slice Ax lx.length cx], .bool (!false)]) ∧ Below w.heap.size w w' := by
  obtain ⟨h0, h1, h2, h3, h4, h5, h6, h7, h8, h9, h10, h11, h12, g5, g6, g10⟩ := hp
  have hl := World.block_lt_of_cell? w _ h0
  have G5 := Aside0.mk g5
  have G6 := Aside0.mk g6
  have G10 := Aside0.mk g10
  have GX := Aside0.mk hx
  have KN := Aside0.mk hk
  have HB := Aside0.mk (Below.refl w.heap.size w)
  have hu := Try.underlying64
  have hu30 := Try.underlying30
  clear g5 g6 g10 hx hk
  have F5 := Aside0.mk f5
  clear f5
  go_enter Try.func29, Try.ntmps29
  
  go_wp2_with (first | ((with_reducible refine gate_dst (N := 3) rfl ?_); (try (refine gate_guard (by rfl) ?_; dsimp only)); refine box_event (by rfl) (N := 3) (by rfl) (cs := #[.bool xh, .slice Ax lx.length cx]) (t := 64) ?hrz381 ?_; (case hrz381 => first | (go_simp; done) | (go_simp; rfl)); intro gx hg_ wq380 hbox hb; have gx_G := gG_ hg_ HB; have t_ := pb13_ hb h0 h1 h2 h3 h4 h5 h6 h7 h8 h9 h10 h11 h12; clear h0 h1 h2 h3 h4 h5 h6 h7 h8 h9 h10 h11 h12; obtain ⟨h0, h1, h2, h3, h4, h5, h6, h7, h8, h9, h10, h11, h12⟩ := t_; have gx_B := Aside0.mk hbox; obtain ⟨gx_0, gx_1, gx_f0, gx_f1⟩ := cz2_ hbox; replace HB := Aside0.mk (below_step HB.out hb); clear hbox hb hg_) | ((with_reducible refine gate_dst (N := 4) rfl ?_); (try (refine gate_guard (by rfl) ?_; dsimp only)); refine box_event (by rfl) (N := 4) (by rfl) (cs := #[.bool false, .slice none 0 0]) (t := 64) ?hrz383 ?_; (case hrz383 => first | (go_simp; done) | (go_simp; rfl)); intro gr hg_ wq382 hbox hb; have NE_gx_gr := nE1_ hg_ gx_B; have NE_gr_gx := nE2_ hg_ gx_B; have gr_G := gG_ hg_ HB; have t_ := pb13_ hb h0 h1 h2 h3 h4 h5 h6 h7 h8 h9 h10 h11 h12; clear h0 h1 h2 h3 h4 h5 h6 h7 h8 h9 h10 h11 h12; obtain ⟨h0, h1, h2, h3, h4, h5, h6, h7, h8, h9, h10, h11, h12⟩ := t_; replace gx_B := Aside0.mk (blk_below gx_B.out hb); clear gx_0 gx_f0 gx_1 gx_f1; obtain ⟨gx_0, gx_1, gx_f0, gx_f1⟩ := cz2_ gx_B.out; have gr_B := Aside0.mk hbox; obtain ⟨gr_0, gr_1, gr_f0, gr_f1⟩ := cz2_ hbox; replace HB := Aside0.mk (below_step HB.out hb); clear hbox hb hg_) | ((with_reducible refine gate_dst (N := 6) rfl ?_); (try (refine gate_guard (by rfl) ?_; dsimp only)); refine box_event (by rfl) (N := 6) (by rfl) (cs := #[.bool false, .slice none 0 0]) (t := 64) ?hrz385 ?_; (case hrz385 => first | (go_simp; done) | (go_simp; rfl)); intro gs hg_ wq384 hbox hb; have NE_gx_gs := nE1_ hg_ gx_B; have NE_gs_gx := nE2_ hg_ gx_B; have NE_gr_gs := nE1_ hg_ gr_B; have NE_gs_gr := nE2_ hg_ gr_B; have gs_G := gG_ hg_ HB; have t_ := pb13_ hb h0 h1 h2 h3 h4 h5 h6 h7 h8 h9 h10 h11 h12; clear h0 h1 h2 h3 h4 h5 h6 h7 h8 h9 h10 h11 h12; obtain ⟨h0, h1, h2, h3, h4, h5, h6, h7, h8, h9, h10, h11, h12⟩ := t_; replace gx_B := Aside0.mk (blk_below gx_B.out hb); clear gx_0 gx_f0 gx_1 gx_f1; obtain ⟨gx_0, gx_1, gx_f0, gx_f1⟩ := cz2_ gx_B.out; replace gr_B := Aside0.mk (blk_below gr_B.out hb); clear gr_0 gr_f0 gr_1 gr_f1; obtain ⟨gr_0, gr_1, gr_f0, gr_f1⟩ := cz2_ gr_B.out; have gs_B := Aside0.mk hbox; obtain ⟨gs_0, gs_1, gs_f0, gs_f1⟩ := cz2_ hbox; replace HB := Aside0.mk (below_step HB.out hb); clear hbox hb hg_) | ((with_reducible refine gate_store (p := 6) rfl ?_); refine st_all (g := gs) 6 [.bool true, .slice A5 c.f2.f3.length c5] ?ttz387 ?xxz387 ?uuz387 ?htz387 ?eez387 gs_B.out ?_; (case eez387 => and_intros <;> rfl); (case htz387 => kernel_rfl); intro wq386 hbox hO; have e_ := Nat.ne_of_lt (Nat.lt_of_lt_of_le hl gs_G.out); have t_ := on13_ hO h0 h1 h2 h3 h4 h5 h6 h7 h8 h9 h10 h11 h12 e_ e_ e_ e_ e_ e_ e_ e_ e_ e_ e_ e_ e_; clear e_ h0 h1 h2 h3 h4 h5 h6 h7 h8 h9 h10 h11 h12; obtain ⟨h0, h1, h2, h3, h4, h5, h6, h7, h8, h9, h10, h11, h12⟩ := t_; replace gx_B := Aside0.mk (hO.blk NE_gx_gs.out gx_B.out); clear gx_0 gx_f0 gx_1 gx_f1; obtain ⟨gx_0, gx_1, gx_f0, gx_f1⟩ := cz2_ gx_B.out; replace gr_B := Aside0.mk (hO.blk NE_gr_gs.out gr_B.out); clear gr_0 gr_f0 gr_1 gr_f1; obtain ⟨gr_0, gr_1, gr_f0, gr_f1⟩ := cz2_ gr_B.out; clear gs_B; clear gs_0 gs_f0 gs_1 gs_f1; have gs_B := Aside0.mk hbox; obtain ⟨gs_0, gs_1, gs_f0, gs_f1⟩ := cz2_ hbox; replace HB := Aside0.mk (hO.below HB.out gs_G.out); clear hbox hO) | (go_at_call 41; refine (known_calls c _ A5 c5 A6 c6 A10 c10 _ KN.out ?s0_z389 ?s1_z389 ?s2_z389).mono ?_; (case s0_z389 => with_reducible exact lC G5.out HB.out); (case s1_z389 => with_reducible exact lC G6.out HB.out); (case s2_z389 => with_reducible exact lC G10.out HB.out); rintro e wq388 ⟨rfl, hb⟩; have t_ := pb13_ hb h0 h1 h2 h3 h4 h5 h6 h7 h8 h9 h10 h11 h12; clear h0 h1 h2 h3 h4 h5 h6 h7 h8 h9 h10 h11 h12; obtain ⟨h0, h1, h2, h3, h4, h5, h6, h7, h8, h9, h10, h11, h12⟩ := t_; replace gx_B := Aside0.mk (blk_below gx_B.out hb); clear gx_0 gx_f0 gx_1 gx_f1; obtain ⟨gx_0, gx_1, gx_f0, gx_f1⟩ := cz2_ gx_B.out; replace gr_B := Aside0.mk (blk_below gr_B.out hb); clear gr_0 gr_f0 gr_1 gr_f1; obtain ⟨gr_0, gr_1, gr_f0, gr_f1⟩ := cz2_ gr_B.out; replace gs_B := Aside0.mk (blk_below gs_B.out hb); clear gs_0 gs_f0 gs_1 gs_f1; obtain ⟨gs_0, gs_1, gs_f0, gs_f1⟩ := cz2_ gs_B.out; replace HB := Aside0.mk (below_step HB.out hb); clear hb))
  refine start_w (n := 6) (S := fun w' => w'.cell? ⟨b, o, none⟩ = some (.int .u8 c.f0) ∧ w'.cell? ⟨b, o + 1, none⟩ = some (.int .u64 c.f1) ∧ w'.cell? ⟨b, o + 2, none⟩ = some (.int .u8 c.f2.f0) ∧ w'.cell? ⟨b, o + 3, none⟩ = some (.int .u64 c.f2.f1) ∧ w'.cell? ⟨b, o + 4, none⟩ = some (.int .u64 c.f2.f2) ∧ w'.cell? ⟨b, o + 5, none⟩ = some (.slice A5 c.f2.f3.length c5) ∧ w'.cell? ⟨b, o + 6, none⟩ = some (.slice A6 c.f2.f4.length c6) ∧ w'.cell? ⟨b, o + 7, none⟩ = some (.bool c.f2.f5) ∧ w'.cell? ⟨b, o + 8, none⟩ = some (.int .u8 c.f2.f6) ∧ w'.cell? ⟨b, o + 9, none⟩ = some (.int .u8 c.f3) ∧ w'.cell? ⟨b, o + 10, none⟩ = some (.slice A10 c.f4.length c10) ∧ w'.cell? ⟨b, o + 11, none⟩ = some (.int .i64 c.f5) ∧ w'.cell? ⟨b, o + 12, none⟩ = some (.int .i64 c.f6) ∧ w'.cell? ⟨gx, 0, none⟩ = some (.bool xh) ∧ w'.cell? ⟨gx, 1, none⟩ = some (.slice Ax lx.length cx)) (ds := []) #[false, false, false, false, false, false] (by kernel_rfl) rfl rfl ?_
  intro wq390 hb
  have t_ := pb13_ hb h0 h1 h2 h3 h4 h5 h6 h7 h8 h9 h10 h11 h12
  clear h0 h1 h2 h3 h4 h5 h6 h7 h8 h9 h10 h11 h12
  obtain ⟨h0, h1, h2, h3, h4, h5, h6, h7, h8, h9, h10, h11, h12⟩ := t_
  replace gx_B := Aside0.mk (blk_below gx_B.out hb)
  clear gx_0 gx_f0 gx_1 gx_f1
  obtain ⟨gx_0, gx_1, gx_f0, gx_f1⟩ := cz2_ gx_B.out
  replace gr_B := Aside0.mk (blk_below gr_B.out hb)
  clear gr_0 gr_f0 gr_1 gr_f1
  obtain ⟨gr_0, gr_1, gr_f0, gr_f1⟩ := cz2_ gr_B.out
  replace gs_B := Aside0.mk (blk_below gs_B.out hb)
  clear gs_0 gs_f0 gs_1 gs_f1
  obtain ⟨gs_0, gs_1, gs_f0, gs_f1⟩ := cz2_ gs_B.out
  replace HB := Aside0.mk (below_step HB.out hb)
  clear hb
  refine pure_ (i := 0) (N := (some 82)) (v := ?_) (a' := ?_) #[true, false, false, false, false, false] rfl rfl (by kernel_rfl) (fun _ _ _ h => h) (Or.inl ⟨by rfl, ?_⟩) ?_ ?_
  rotate_left
  · intro w'; go_simp; with_reducible rfl
  rotate_left
  · simp only [Act.put, List.setIfInBounds_toArray, List.set_cons_zero, List.set_cons_succ, i64_w, i32_w]; rfl
  refine pure_ (i := 1) (N := (some 83)) (v := ?_) (a' := ?_) #[true, true, false, false, false, false] rfl rfl (by kernel_rfl) (fun _ _ _ h => h) (Or.inl ⟨by rfl, ?_⟩) ?_ ?_
  rotate_left
  · intro w'; go_simp; with_reducible rfl
  rotate_left
  · simp only [Act.put, List.setIfInBounds_toArray, List.set_cons_zero, List.set_cons_succ, i64_w, i32_w]; rfl
  refine pure_ (i := 2) (N := (some 84)) (v := ?_) (a' := ?_) #[true, true, true, false, false, false] rfl rfl (by kernel_rfl) (fun _ _ _ h => h) (Or.inl ⟨by rfl, ?_⟩) ?_ ?_
  rotate_left
  · intro w'; go_simp; with_reducible rfl
  rotate_left
  · simp only [Act.put, List.setIfInBounds_toArray, List.set_cons_zero, List.set_cons_succ, i64_w, i32_w]; rfl
  refine take_ (i := 3) (N := (some 85)) (v := ?_) (a' := ?_) #[true, true, true, true, false, false] rfl rfl (by kernel_rfl) (fun _ _ _ h => h) (Or.inl ⟨by rfl, ?_⟩) ⟨h0, h1, h2, h3, h4, h5, h6, h7, h8, h9, h10, h11, h12, gx_0, gx_1⟩ ?_ ?_
  rotate_left
  · rintro w' ⟨s_0, s_1, s_2, s_3, s_4, s_5, s_6, s_7, s_8, s_9, s_10, s_11, s_12, s_13, s_14⟩; go_simp; with_reducible rfl
  rotate_left
  · simp only [Act.put, List.setIfInBounds_toArray, List.set_cons_zero, List.set_cons_succ, i64_w, i32_w]; rfl
  refine one_ (i := 4) (N := (some 86)) #[true, true, true, true, true, false] rfl rfl (by kernel_rfl) (by decide) (fun K hK => ?_)
  refine goes_ Try.func51 (by kernel_rfl) rfl ?arz391 (by rfl) rfl rfl ?harz391 ?hcz391
  case' hcz391 => refine (expected_calls b (o + 2) c.f2.f5 (.slice A6 c.f2.f4.length c6) c.f2.f4 xh (.slice Ax lx.length cx) lx _ ?s0_z393 ?s1_z393 ?s2_z393 ?s3_z393).mono ?_
  (case s0_z393 => exact h7)
  (case s1_z393 => exact h6)
  (case s2_z393 => with_reducible exact lR G6.out HB.out)
  (case s3_z393 => with_reducible exact lR GX.out HB.out)
  rotate_left
  · first | rfl | (simp only [List.map_toArray, List.map_cons, List.map_nil]; rfl)
  rintro e wq392 ⟨rfl, hb⟩
  have t_ := pb13_ hb h0 h1 h2 h3 h4 h5 h6 h7 h8 h9 h10 h11 h12
  clear h0 h1 h2 h3 h4 h5 h6 h7 h8 h9 h10 h11 h12
  obtain ⟨h0, h1, h2, h3, h4, h5, h6, h7, h8, h9, h10, h11, h12⟩ := t_
  replace gx_B := Aside0.mk (blk_below gx_B.out hb)
  clear gx_0 gx_f0 gx_1 gx_f1
  obtain ⟨gx_0, gx_1, gx_f0, gx_f1⟩ := cz2_ gx_B.out
  replace gr_B := Aside0.mk (blk_below gr_B.out hb)
  clear gr_0 gr_f0 gr_1 gr_f1
  obtain ⟨gr_0, gr_1, gr_f0, gr_f1⟩ := cz2_ gr_B.out
  replace gs_B := Aside0.mk (blk_below gs_B.out hb)
  clear gs_0 gs_f0 gs_1 gs_f1
  obtain ⟨gs_0, gs_1, gs_f0, gs_f1⟩ := cz2_ gs_B.out
  replace HB := Aside0.mk (below_step HB.out hb)
  clear hb
  (simp only [F5.out])
  refine ⟨_, rfl, ?_⟩
  refine hK.out _ _ ⟨h0, h1, h2, h3, h4, h5, h6, h7, h8, h9, h10, h11, h12, gx_0, gx_1⟩ (fun _ => ?_)
  clear hK K
  refine norm_ (a' := ?_) ?_ ?_
  rotate_left
  · show Act.put _ (some 86) _ = _; simp only [Act.put, List.setIfInBounds_toArray, List.set_cons_zero, List.set_cons_succ, i64_w, i32_w]; rfl
  refine pure_ (i := 5) (N := (some 8)) (v := ?_) (a' := ?_) #[true, true, true, true, true, true] rfl rfl (by kernel_rfl) (fun _ _ _ h => h) (Or.inl ⟨by rfl, ?_⟩) ?_ ?_
  rotate_left
  · intro w'; go_simp; with_reducible rfl
  rotate_left
  · simp only [Act.put, List.setIfInBounds_toArray, List.set_cons_zero, List.set_cons_succ, i64_w, i32_w]; rfl
  refine done_ (by kernel_rfl) ?_
  go_wp2_with (first | (go_at_call 41; refine (known_calls c _ A5 c5 A6 c6 A10 c10 _ KN.out ?s0_z395 ?s1_z395 ?s2_z395).mono ?_; (case s0_z395 => with_reducible exact lC G5.out HB.out); (case s1_z395 => with_reducible exact lC G6.out HB.out); (case s2_z395 => with_reducible exact lC G10.out HB.out); rintro e wq394 ⟨rfl, hb⟩; have t_ := pb13_ hb h0 h1 h2 h3 h4 h5 h6 h7 h8 h9 h10 h11 h12; clear h0 h1 h2 h3 h4 h5 h6 h7 h8 h9 h10 h11 h12; obtain ⟨h0, h1, h2, h3, h4, h5, h6, h7, h8, h9, h10, h11, h12⟩ := t_; replace gx_B := Aside0.mk (blk_below gx_B.out hb); clear gx_0 gx_f0 gx_1 gx_f1; obtain ⟨gx_0, gx_1, gx_f0, gx_f1⟩ := cz2_ gx_B.out; replace gr_B := Aside0.mk (blk_below gr_B.out hb); clear gr_0 gr_f0 gr_1 gr_f1; obtain ⟨gr_0, gr_1, gr_f0, gr_f1⟩ := cz2_ gr_B.out; replace gs_B := Aside0.mk (blk_below gs_B.out hb); clear gs_0 gs_f0 gs_1 gs_f1; obtain ⟨gs_0, gs_1, gs_f0, gs_f1⟩ := cz2_ gs_B.out; replace HB := Aside0.mk (below_step HB.out hb); clear hb) | ((with_reducible refine gate_store (p := 4) rfl ?_); refine st_all (g := gr) 4 [.bool xh, .slice Ax lx.length cx] ?ttz397 ?xxz397 ?uuz397 ?htz397 ?eez397 gr_B.out ?_; (case eez397 => and_intros <;> rfl); (case htz397 => kernel_rfl); intro wq396 hbox hO; have e_ := Nat.ne_of_lt (Nat.lt_of_lt_of_le hl gr_G.out); have t_ := on13_ hO h0 h1 h2 h3 h4 h5 h6 h7 h8 h9 h10 h11 h12 e_ e_ e_ e_ e_ e_ e_ e_ e_ e_ e_ e_ e_; clear e_ h0 h1 h2 h3 h4 h5 h6 h7 h8 h9 h10 h11 h12; obtain ⟨h0, h1, h2, h3, h4, h5, h6, h7, h8, h9, h10, h11, h12⟩ := t_; replace gx_B := Aside0.mk (hO.blk NE_gx_gr.out gx_B.out); clear gx_0 gx_f0 gx_1 gx_f1; obtain ⟨gx_0, gx_1, gx_f0, gx_f1⟩ := cz2_ gx_B.out; replace gs_B := Aside0.mk (hO.blk NE_gs_gr.out gs_B.out); clear gs_0 gs_f0 gs_1 gs_f1; obtain ⟨gs_0, gs_1, gs_f0, gs_f1⟩ := cz2_ gs_B.out; clear gr_B; clear gr_0 gr_f0 gr_1 gr_f1; have gr_B := Aside0.mk hbox; obtain ⟨gr_0, gr_1, gr_f0, gr_f1⟩ := cz2_ hbox; replace HB := Aside0.mk (hO.below HB.out gr_G.out); clear hbox hO))
  refine bodyPost_ret (results_ct rfl _ _ gr 64 #[.bool xh, .slice Ax lx.length cx] (0, 0) _ rfl gr_B.out Try.underlying64 rfl (by kernel_rfl)) rfl ?_
  exact ⟨by first | rfl | (cases xh <;> rfl), HB.out⟩
end Go.Proofs.Ytdjdbjcapenjeaa.P
