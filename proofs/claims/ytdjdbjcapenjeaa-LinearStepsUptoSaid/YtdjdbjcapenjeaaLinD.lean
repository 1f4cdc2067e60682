/- The document's Play of layer 14, walked case by case. -/
import Derived.Test.YtdjdbjcapenjeaaLinC
import Derived.Test.YtdjdbjcapenjeaaPx1
namespace Go.Proofs.Ytdjdbjcapenjeaa.P
open Go.RowKit Go.Proofs.YtdjdbjcapenjeaaW.PrintWords Go.Proofs.YtdjdbjcapenjeaaW.PrintLast Go.Proofs.YtdjdbjcapenjeaaW.PrintMore
set_option linter.unusedVariables false
set_option linter.unusedSimpArgs false
theorem Known_calls (c : S30) (kn : Bool) (A5 : Option Addr) (c5 : Nat) (A6 : Option Addr) (c6 : Nat) (A10 : Option Addr) (c10 : Nat) (w : World) (hk : (c.f6 != -1) = kn)
    (g5 : RdL w A5 c5 c.f2.f3) (g6 : RdL w A6 c6 c.f2.f4) (g10 : RdL w A10 c10 c.f4) :
    Calls Try.prog 45 #[.agg #[.int .u8 c.f0, .int .u64 c.f1, .int .u8 c.f2.f0, .int .u64 c.f2.f1, .int .u64 c.f2.f2, .slice A5 c.f2.f3.length c5, .slice A6 c.f2.f4.length c6, .bool c.f2.f5, .int .u8 c.f2.f6, .int .u8 c.f3, .slice A10 c.f4.length c10, .int .i64 c.f5, .int .i64 c.f6]] w fun e w' => e = .returned (.bool kn) ∧ Below w.heap.size w w' :=
  shardref14_Known.calls c.f0 c.f1 c.f2.f0 c.f2.f1 c.f2.f2 A5 c5 c.f2.f3 A6 c6 c.f2.f4 c.f2.f5 c.f2.f6 c.f3 A10 c10 c.f4 c.f5 c.f6 kn w g5.2 g5.1 g6.2 g6.1 g10.2 g10.1 (by unfold shardref14_Known.f; rw [hk])
set_option maxHeartbeats 8000000 in
set_option maxRecDepth 100000 in
theorem Play_u (c : S30) (A5 : Option Addr) (c5 : Nat) (A6 : Option Addr) (c6 : Nat) (A10 : Option Addr) (c10 : Nat) (xh : Bool) (st : Int) (hy : Bool) (Ay : Option Addr) (cy : Nat) (ly : List Int) (Ax : Option Addr) (cx : Nat) (lx : List Int) (w : World) (g5 : RdL w A5 c5 c.f2.f3) (g6 : RdL w A6 c6 c.f2.f4) (g10 : RdL w A10 c10 c.f4) (gx : RdL w Ax cx lx) (hn : lx.length < 4611686018427387904) (b0 : 0 ≤ c.f3) (b1 : c.f3 ≤ 255) (hk : (c.f6 != -1) = false) (ha : ∀ W, Below w.heap.size w W → Calls Try.prog 46 #[.agg #[.int .u8 c.f2.f0, .int .u64 c.f2.f1, .int .u64 c.f2.f2, .slice A5 c.f2.f3.length c5, .slice A6 c.f2.f4.length c6, .bool c.f2.f5, .int .u8 c.f2.f6], .agg #[.bool xh, .slice Ax lx.length cx]] W fun e w' => e = .returned (.tuple #[.int .i64 st, .agg #[.bool hy, .slice Ay ly.length cy]]) ∧ Below W.heap.size W w') :
    Calls Try.prog 26 #[.agg #[.int .u8 c.f0, .int .u64 c.f1, .int .u8 c.f2.f0, .int .u64 c.f2.f1, .int .u64 c.f2.f2, .slice A5 c.f2.f3.length c5, .slice A6 c.f2.f4.length c6, .bool c.f2.f5, .int .u8 c.f2.f6, .int .u8 c.f3, .slice A10 c.f4.length c10, .int .i64 c.f5, .int .i64 c.f6], .agg #[.bool xh, .slice Ax lx.length cx]] w fun e w' => e = .returned (.tuple #[.bool true, .agg #[.bool hy, .slice Ay ly.length cy]]) ∧ Below w.heap.size w w' := by
  have HB := Aside0.mk (Below.refl w.heap.size w)
  have G5 := Aside0.mk g5
  clear g5
  have G6 := Aside0.mk g6
  clear g6
  have G10 := Aside0.mk g10
  clear g10
  have GX := Aside0.mk gx
  clear gx
  have HN := Aside0.mk hn
  clear hn
  have KN := Aside0.mk hk
  clear hk
  have HA := Aside0.mk ha
  clear ha
  go_enter Try.func26, Try.ntmps26
  have hu := Try.underlying60
  have hu2 := Try.underlying27
  have hu3 := Try.underlying30
  go_wp2_with (first | ((with_reducible refine gate_dst (N := 2) rfl ?_); (try (refine gate_guard (by rfl) ?_; dsimp only)); refine box_event (by rfl) (N := 2) (by rfl) (cs := #[.int .u8 c.f0, .int .u64 c.f1, .int .u8 c.f2.f0, .int .u64 c.f2.f1, .int .u64 c.f2.f2, .slice A5 c.f2.f3.length c5, .slice A6 c.f2.f4.length c6, .bool c.f2.f5, .int .u8 c.f2.f6, .int .u8 c.f3, .slice A10 c.f4.length c10, .int .i64 c.f5, .int .i64 c.f6]) (t := 30) ?hrz448 ?_; (case hrz448 => first | (go_simp; done) | (go_simp; rfl)); intro gc hg_ wq447 hbox hb; have gc_G := gG_ hg_ HB; have gc_B := Aside0.mk hbox; obtain ⟨gc_0, gc_1, gc_2, gc_3, gc_4, gc_5, gc_6, gc_7, gc_8, gc_9, gc_10, gc_11, gc_12, gc_f0, gc_f1, gc_f2, gc_f3, gc_f4, gc_f5, gc_f6, gc_f7, gc_f8, gc_f9, gc_f10, gc_f11, gc_f12⟩ := cz13_ hbox; replace HB := Aside0.mk (below_step HB.out hb); clear hbox hb hg_) | ((with_reducible refine gate_dst (N := 3) rfl ?_); (try (refine gate_guard (by rfl) ?_; dsimp only)); refine box_event (by rfl) (N := 3) (by rfl) (cs := #[.bool xh, .slice Ax lx.length cx]) (t := 60) ?hrz450 ?_; (case hrz450 => first | (go_simp; done) | (go_simp; rfl)); intro gx hg_ wq449 hbox hb; have NE_gc_gx := nE1_ hg_ gc_B; have NE_gx_gc := nE2_ hg_ gc_B; have gx_G := gG_ hg_ HB; replace gc_B := Aside0.mk (blk_below gc_B.out hb); clear gc_0 gc_f0 gc_1 gc_f1 gc_2 gc_f2 gc_3 gc_f3 gc_4 gc_f4 gc_5 gc_f5 gc_6 gc_f6 gc_7 gc_f7 gc_8 gc_f8 gc_9 gc_f9 gc_10 gc_f10 gc_11 gc_f11 gc_12 gc_f12; obtain ⟨gc_0, gc_1, gc_2, gc_3, gc_4, gc_5, gc_6, gc_7, gc_8, gc_9, gc_10, gc_11, gc_12, gc_f0, gc_f1, gc_f2, gc_f3, gc_f4, gc_f5, gc_f6, gc_f7, gc_f8, gc_f9, gc_f10, gc_f11, gc_f12⟩ := cz13_ gc_B.out; have gx_B := Aside0.mk hbox; obtain ⟨gx_0, gx_1, gx_f0, gx_f1⟩ := cz2_ hbox; replace HB := Aside0.mk (below_step HB.out hb); clear hbox hb hg_) | ((with_reducible refine gate_dst (N := 5) rfl ?_); (try (refine gate_guard (by rfl) ?_; dsimp only)); refine box_event (by rfl) (N := 5) (by rfl) (cs := #[.bool false, .slice none 0 0]) (t := 60) ?hrz452 ?_; (case hrz452 => first | (go_simp; done) | (go_simp; rfl)); intro gr hg_ wq451 hbox hb; have NE_gc_gr := nE1_ hg_ gc_B; have NE_gr_gc := nE2_ hg_ gc_B; have NE_gx_gr := nE1_ hg_ gx_B; have NE_gr_gx := nE2_ hg_ gx_B; have gr_G := gG_ hg_ HB; replace gc_B := Aside0.mk (blk_below gc_B.out hb); clear gc_0 gc_f0 gc_1 gc_f1 gc_2 gc_f2 gc_3 gc_f3 gc_4 gc_f4 gc_5 gc_f5 gc_6 gc_f6 gc_7 gc_f7 gc_8 gc_f8 gc_9 gc_f9 gc_10 gc_f10 gc_11 gc_f11 gc_12 gc_f12; obtain ⟨gc_0, gc_1, gc_2, gc_3, gc_4, gc_5, gc_6, gc_7, gc_8, gc_9, gc_10, gc_11, gc_12, gc_f0, gc_f1, gc_f2, gc_f3, gc_f4, gc_f5, gc_f6, gc_f7, gc_f8, gc_f9, gc_f10, gc_f11, gc_f12⟩ := cz13_ gc_B.out; replace gx_B := Aside0.mk (blk_below gx_B.out hb); clear gx_0 gx_f0 gx_1 gx_f1; obtain ⟨gx_0, gx_1, gx_f0, gx_f1⟩ := cz2_ gx_B.out; have gr_B := Aside0.mk hbox; obtain ⟨gr_0, gr_1, gr_f0, gr_f1⟩ := cz2_ hbox; replace HB := Aside0.mk (below_step HB.out hb); clear hbox hb hg_) | ((with_reducible refine gate_dst (N := 7) rfl ?_); (try (refine gate_guard (by rfl) ?_; dsimp only)); refine box_event (by rfl) (N := 7) (by rfl) (cs := #[.bool false, .slice none 0 0]) (t := 60) ?hrz454 ?_; (case hrz454 => first | (go_simp; done) | (go_simp; rfl)); intro gy hg_ wq453 hbox hb; have NE_gc_gy := nE1_ hg_ gc_B; have NE_gy_gc := nE2_ hg_ gc_B; have NE_gx_gy := nE1_ hg_ gx_B; have NE_gy_gx := nE2_ hg_ gx_B; have NE_gr_gy := nE1_ hg_ gr_B; have NE_gy_gr := nE2_ hg_ gr_B; have gy_G := gG_ hg_ HB; replace gc_B := Aside0.mk (blk_below gc_B.out hb); clear gc_0 gc_f0 gc_1 gc_f1 gc_2 gc_f2 gc_3 gc_f3 gc_4 gc_f4 gc_5 gc_f5 gc_6 gc_f6 gc_7 gc_f7 gc_8 gc_f8 gc_9 gc_f9 gc_10 gc_f10 gc_11 gc_f11 gc_12 gc_f12; obtain ⟨gc_0, gc_1, gc_2, gc_3, gc_4, gc_5, gc_6, gc_7, gc_8, gc_9, gc_10, gc_11, gc_12, gc_f0, gc_f1, gc_f2, gc_f3, gc_f4, gc_f5, gc_f6, gc_f7, gc_f8, gc_f9, gc_f10, gc_f11, gc_f12⟩ := cz13_ gc_B.out; replace gx_B := Aside0.mk (blk_below gx_B.out hb); clear gx_0 gx_f0 gx_1 gx_f1; obtain ⟨gx_0, gx_1, gx_f0, gx_f1⟩ := cz2_ gx_B.out; replace gr_B := Aside0.mk (blk_below gr_B.out hb); clear gr_0 gr_f0 gr_1 gr_f1; obtain ⟨gr_0, gr_1, gr_f0, gr_f1⟩ := cz2_ gr_B.out; have gy_B := Aside0.mk hbox; obtain ⟨gy_0, gy_1, gy_f0, gy_f1⟩ := cz2_ hbox; replace HB := Aside0.mk (below_step HB.out hb); clear hbox hb hg_) | ((with_reducible refine gate_store (p := 7) rfl ?_); refine st_all (g := gy) 7 [.bool hy, .slice Ay ly.length cy] ?ttz456 ?xxz456 ?uuz456 ?htz456 ?eez456 gy_B.out ?_; (case eez456 => and_intros <;> rfl); (case htz456 => kernel_rfl); intro wq455 hbox hO; replace gc_B := Aside0.mk (hO.blk NE_gc_gy.out gc_B.out); clear gc_0 gc_f0 gc_1 gc_f1 gc_2 gc_f2 gc_3 gc_f3 gc_4 gc_f4 gc_5 gc_f5 gc_6 gc_f6 gc_7 gc_f7 gc_8 gc_f8 gc_9 gc_f9 gc_10 gc_f10 gc_11 gc_f11 gc_12 gc_f12; obtain ⟨gc_0, gc_1, gc_2, gc_3, gc_4, gc_5, gc_6, gc_7, gc_8, gc_9, gc_10, gc_11, gc_12, gc_f0, gc_f1, gc_f2, gc_f3, gc_f4, gc_f5, gc_f6, gc_f7, gc_f8, gc_f9, gc_f10, gc_f11, gc_f12⟩ := cz13_ gc_B.out; replace gx_B := Aside0.mk (hO.blk NE_gx_gy.out gx_B.out); clear gx_0 gx_f0 gx_1 gx_f1; obtain ⟨gx_0, gx_1, gx_f0, gx_f1⟩ := cz2_ gx_B.out; replace gr_B := Aside0.mk (hO.blk NE_gr_gy.out gr_B.out); clear gr_0 gr_f0 gr_1 gr_f1; obtain ⟨gr_0, gr_1, gr_f0, gr_f1⟩ := cz2_ gr_B.out; clear gy_B; clear gy_0 gy_f0 gy_1 gy_f1; have gy_B := Aside0.mk hbox; obtain ⟨gy_0, gy_1, gy_f0, gy_f1⟩ := cz2_ hbox; replace HB := Aside0.mk (hO.below HB.out gy_G.out); clear hbox hO) | (go_at_call 46; refine (HA.out _ ?s0_z458).mono ?_; (case s0_z458 => with_reducible exact HB.out); rintro e wq457 ⟨rfl, hb⟩; replace gc_B := Aside0.mk (blk_below gc_B.out hb); clear gc_0 gc_f0 gc_1 gc_f1 gc_2 gc_f2 gc_3 gc_f3 gc_4 gc_f4 gc_5 gc_f5 gc_6 gc_f6 gc_7 gc_f7 gc_8 gc_f8 gc_9 gc_f9 gc_10 gc_f10 gc_11 gc_f11 gc_12 gc_f12; obtain ⟨gc_0, gc_1, gc_2, gc_3, gc_4, gc_5, gc_6, gc_7, gc_8, gc_9, gc_10, gc_11, gc_12, gc_f0, gc_f1, gc_f2, gc_f3, gc_f4, gc_f5, gc_f6, gc_f7, gc_f8, gc_f9, gc_f10, gc_f11, gc_f12⟩ := cz13_ gc_B.out; replace gx_B := Aside0.mk (blk_below gx_B.out hb); clear gx_0 gx_f0 gx_1 gx_f1; obtain ⟨gx_0, gx_1, gx_f0, gx_f1⟩ := cz2_ gx_B.out; replace gr_B := Aside0.mk (blk_below gr_B.out hb); clear gr_0 gr_f0 gr_1 gr_f1; obtain ⟨gr_0, gr_1, gr_f0, gr_f1⟩ := cz2_ gr_B.out; replace HB := Aside0.mk (below_step HB.out hb); clear hb) | (go_at_call 45; refine (Known_calls c false A5 c5 A6 c6 A10 c10 _ ?s0_z460 ?s1_z460 ?s2_z460 ?s3_z460).mono ?_; (case s0_z460 => exact KN.out); (case s1_z460 => with_reducible exact lC G5.out HB.out); (case s2_z460 => with_reducible exact lC G6.out HB.out); (case s3_z460 => with_reducible exact lC G10.out HB.out); rintro e wq459 ⟨rfl, hb⟩; replace gc_B := Aside0.mk (blk_below gc_B.out hb); clear gc_0 gc_f0 gc_1 gc_f1 gc_2 gc_f2 gc_3 gc_f3 gc_4 gc_f4 gc_5 gc_f5 gc_6 gc_f6 gc_7 gc_f7 gc_8 gc_f8 gc_9 gc_f9 gc_10 gc_f10 gc_11 gc_f11 gc_12 gc_f12; obtain ⟨gc_0, gc_1, gc_2, gc_3, gc_4, gc_5, gc_6, gc_7, gc_8, gc_9, gc_10, gc_11, gc_12, gc_f0, gc_f1, gc_f2, gc_f3, gc_f4, gc_f5, gc_f6, gc_f7, gc_f8, gc_f9, gc_f10, gc_f11, gc_f12⟩ := cz13_ gc_B.out; replace gx_B := Aside0.mk (blk_below gx_B.out hb); clear gx_0 gx_f0 gx_1 gx_f1; obtain ⟨gx_0, gx_1, gx_f0, gx_f1⟩ := cz2_ gx_B.out; replace gr_B := Aside0.mk (blk_below gr_B.out hb); clear gr_0 gr_f0 gr_1 gr_f1; obtain ⟨gr_0, gr_1, gr_f0, gr_f1⟩ := cz2_ gr_B.out; replace gy_B := Aside0.mk (blk_below gy_B.out hb); clear gy_0 gy_f0 gy_1 gy_f1; obtain ⟨gy_0, gy_1, gy_f0, gy_f1⟩ := cz2_ gy_B.out; replace HB := Aside0.mk (below_step HB.out hb); clear hb) | (go_at_call 47; refine (same14_calls true Ax cx lx A10 c10 c.f4 _ ?s0_z462 ?s1_z462 ?s2_z462 ?s3_z462).mono ?_; (case s0_z462 => with_reducible exact lC GX.out HB.out); (case s1_z462 => with_reducible exact lC G10.out HB.out); (case s2_z462 => exact HN.out); (case s3_z462 => exact HS.out); rintro e wq461 ⟨rfl, hb⟩; replace gc_B := Aside0.mk (blk_below gc_B.out hb); clear gc_0 gc_f0 gc_1 gc_f1 gc_2 gc_f2 gc_3 gc_f3 gc_4 gc_f4 gc_5 gc_f5 gc_6 gc_f6 gc_7 gc_f7 gc_8 gc_f8 gc_9 gc_f9 gc_10 gc_f10 gc_11 gc_f11 gc_12 gc_f12; obtain ⟨gc_0, gc_1, gc_2, gc_3, gc_4, gc_5, gc_6, gc_7, gc_8, gc_9, gc_10, gc_11, gc_12, gc_f0, gc_f1, gc_f2, gc_f3, gc_f4, gc_f5, gc_f6, gc_f7, gc_f8, gc_f9, gc_f10, gc_f11, gc_f12⟩ := cz13_ gc_B.out; replace gx_B := Aside0.mk (blk_below gx_B.out hb); clear gx_0 gx_f0 gx_1 gx_f1; obtain ⟨gx_0, gx_1, gx_f0, gx_f1⟩ := cz2_ gx_B.out; replace gr_B := Aside0.mk (blk_below gr_B.out hb); clear gr_0 gr_f0 gr_1 gr_f1; obtain ⟨gr_0, gr_1, gr_f0, gr_f1⟩ := cz2_ gr_B.out; replace gy_B := Aside0.mk (blk_below gy_B.out hb); clear gy_0 gy_f0 gy_1 gy_f1; obtain ⟨gy_0, gy_1, gy_f0, gy_f1⟩ := cz2_ gy_B.out; replace HB := Aside0.mk (below_step HB.out hb); clear hb))
  refine start_w (n := 3) (S := fun w' => w'.cell? ⟨gc, 0, none⟩ = some (.int .u8 c.f0) ∧ w'.cell? ⟨gc, 1, none⟩ = some (.int .u64 c.f1) ∧ w'.cell? ⟨gc, 2, none⟩ = some (.int .u8 c.f2.f0) ∧ w'.cell? ⟨gc, 3, none⟩ = some (.int .u64 c.f2.f1) ∧ w'.cell? ⟨gc, 4, none⟩ = some (.int .u64 c.f2.f2) ∧ w'.cell? ⟨gc, 5, none⟩ = some (.slice A5 c.f2.f3.length c5) ∧ w'.cell? ⟨gc, 6, none⟩ = some (.slice A6 c.f2.f4.length c6) ∧ w'.cell? ⟨gc, 7, none⟩ = some (.bool c.f2.f5) ∧ w'.cell? ⟨gc, 8, none⟩ = some (.int .u8 c.f2.f6) ∧ w'.cell? ⟨gc, 9, none⟩ = some (.int .u8 c.f3) ∧ w'.cell? ⟨gc, 10, none⟩ = some (.slice A10 c.f4.length c10) ∧ w'.cell? ⟨gc, 11, none⟩ = some (.int .i64 c.f5) ∧ w'.cell? ⟨gc, 12, none⟩ = some (.int .i64 c.f6) ∧ w'.cell? ⟨gx, 0, none⟩ = some (.bool xh) ∧ w'.cell? ⟨gx, 1, none⟩ = some (.slice Ax lx.length cx) ∧ w'.cell? ⟨gy, 0, none⟩ = some (.bool hy) ∧ w'.cell? ⟨gy, 1, none⟩ = some (.slice Ay ly.length cy)) (ds := []) #[false, false, false] (by kernel_rfl) rfl rfl ?_
  intro wq463 hb
  replace gc_B := Aside0.mk (blk_below gc_B.out hb)
  clear gc_0 gc_f0 gc_1 gc_f1 gc_2 gc_f2 gc_3 gc_f3 gc_4 gc_f4 gc_5 gc_f5 gc_6 gc_f6 gc_7 gc_f7 gc_8 gc_f8 gc_9 gc_f9 gc_10 gc_f10 gc_11 gc_f11 gc_12 gc_f12
  obtain ⟨gc_0, gc_1, gc_2, gc_3, gc_4, gc_5, gc_6, gc_7, gc_8, gc_9, gc_10, gc_11, gc_12, gc_f0, gc_f1, gc_f2, gc_f3, gc_f4, gc_f5, gc_f6, gc_f7, gc_f8, gc_f9, gc_f10, gc_f11, gc_f12⟩ := cz13_ gc_B.out
  replace gx_B := Aside0.mk (blk_below gx_B.out hb)
  clear gx_0 gx_f0 gx_1 gx_f1
  obtain ⟨gx_0, gx_1, gx_f0, gx_f1⟩ := cz2_ gx_B.out
  replace gr_B := Aside0.mk (blk_below gr_B.out hb)
  clear gr_0 gr_f0 gr_1 gr_f1
  obtain ⟨gr_0, gr_1, gr_f0, gr_f1⟩ := cz2_ gr_B.out
  replace gy_B := Aside0.mk (blk_below gy_B.out hb)
  clear gy_0 gy_f0 gy_1 gy_f1
  obtain ⟨gy_0, gy_1, gy_f0, gy_f1⟩ := cz2_ gy_B.out
  replace HB := Aside0.mk (below_step HB.out hb)
  clear hb
  refine pure_ (i := 1) (N := (some 4)) (v := ?_) (a' := ?_) #[false, true, false] rfl rfl (by kernel_rfl) (fun _ _ _ h => h) (Or.inl ⟨by rfl, ?_⟩) ?_ ?_
  rotate_left
  · intro w'; go_simp; with_reducible rfl
  rotate_left
  · simp only [Act.put, List.setIfInBounds_toArray, List.set_cons_zero, List.set_cons_succ, i64_w, i32_w]; rfl
  refine take_ (i := 0) (N := (some 18)) (v := ?_) (a' := ?_) #[true, true, false] rfl rfl (by kernel_rfl) (fun _ _ _ h => h) (Or.inl ⟨by rfl, ?_⟩) ⟨gc_0, gc_1, gc_2, gc_3, gc_4, gc_5, gc_6, gc_7, gc_8, gc_9, gc_10, gc_11, gc_12, gx_0, gx_1, gy_0, gy_1⟩ ?_ ?_
  rotate_left
  · rintro w' ⟨s_0, s_1, s_2, s_3, s_4, s_5, s_6, s_7, s_8, s_9, s_10, s_11, s_12, s_13, s_14, s_15, s_16⟩; go_simp; with_reducible rfl
  rotate_left
  · simp only [Act.put, List.setIfInBounds_toArray, List.set_cons_zero, List.set_cons_succ, i64_w, i32_w]; rfl
  refine one_ (i := 2) (N := none) #[true, true, true] rfl rfl (by kernel_rfl) (by decide) (fun K hK => ?_)
  refine st_allS (g := gr) 5 [.bool hy, .slice Ay ly.length cy] ?ttz465 ?xxz465 ?uuz465 ?htz465 (by rfl) ?eez465 gr_B.out ?_
  (case eez465 => and_intros <;> rfl)
  (case htz465 => kernel_rfl)
  intro wq464 hbox hO
  replace gc_B := Aside0.mk (hO.blk NE_gc_gr.out gc_B.out)
  clear gc_0 gc_f0 gc_1 gc_f1 gc_2 gc_f2 gc_3 gc_f3 gc_4 gc_f4 gc_5 gc_f5 gc_6 gc_f6 gc_7 gc_f7 gc_8 gc_f8 gc_9 gc_f9 gc_10 gc_f10 gc_11 gc_f11 gc_12 gc_f12
  obtain ⟨gc_0, gc_1, gc_2, gc_3, gc_4, gc_5, gc_6, gc_7, gc_8, gc_9, gc_10, gc_11, gc_12, gc_f0, gc_f1, gc_f2, gc_f3, gc_f4, gc_f5, gc_f6, gc_f7, gc_f8, gc_f9, gc_f10, gc_f11, gc_f12⟩ := cz13_ gc_B.out
  replace gx_B := Aside0.mk (hO.blk NE_gx_gr.out gx_B.out)
  clear gx_0 gx_f0 gx_1 gx_f1
  obtain ⟨gx_0, gx_1, gx_f0, gx_f1⟩ := cz2_ gx_B.out
  replace gy_B := Aside0.mk (hO.blk NE_gy_gr.out gy_B.out)
  clear gy_0 gy_f0 gy_1 gy_f1
  obtain ⟨gy_0, gy_1, gy_f0, gy_f1⟩ := cz2_ gy_B.out
  clear gr_B
  clear gr_0 gr_f0 gr_1 gr_f1
  have gr_B := Aside0.mk hbox
  obtain ⟨gr_0, gr_1, gr_f0, gr_f1⟩ := cz2_ hbox
  replace HB := Aside0.mk (hO.below HB.out gr_G.out)
  clear hbox hO
  refine hK.out _ _ ⟨gc_0, gc_1, gc_2, gc_3, gc_4, gc_5, gc_6, gc_7, gc_8, gc_9, gc_10, gc_11, gc_12, gx_0, gx_1, gy_0, gy_1⟩ (fun _ => ?_)
  clear hK K
  refine norm_ (a' := ?_) ?_ ?_
  rotate_left
  · rfl
  refine done_ (by kernel_rfl) ?_
  go_wp2
  refine bodyPost_ret (results_tc rfl _ _ gr 60 #[.bool hy, .slice Ay ly.length cy] (0, 0) _ rfl gr_B.out Try.underlying60 rfl (by kernel_rfl)) rfl ?_
  exact ⟨rfl, HB.out⟩
set_option maxHeartbeats 8000000 in
set_option maxRecDepth 100000 in
theorem Play_nct (c : S30) (A5 : Option Addr) (c5 : Nat) (A6 : Option Addr) (c6 : Nat) (A10 : Option Addr) (c10 : Nat) (st : Int) (hy : Bool) (Ay : Option Addr) (cy : Nat) (ly : List Int) (Ax : Option Addr) (cx : Nat) (lx : List Int) (w : World) (g5 : RdL w A5 c5 c.f2.f3) (g6 : RdL w A6 c6 c.f2.f4) (g10 : RdL w A10 c10 c.f4) (gx : RdL w Ax cx lx) (hn : lx.length < 4611686018427387904) (b0 : 0 ≤ c.f3) (b1 : c.f3 ≤ 255) (hk : (c.f6 != -1) = true) (ha : ∀ W, Below w.heap.size w W → Calls Try.prog 46 #[.agg #[.int .u8 c.f2.f0, .int .u64 c.f2.f1, .int .u64 c.f2.f2, .slice A5 c.f2.f3.length c5, .slice A6 c.f2.f4.length c6, .bool c.f2.f5, .int .u8 c.f2.f6], .agg #[.bool true, .slice Ax lx.length cx]] W fun e w' => e = .returned (.tuple #[.int .i64 st, .agg #[.bool hy, .slice Ay ly.length cy]]) ∧ Below W.heap.size W w') (f0 : (c.f3 == 4) = true) :
    Calls Try.prog 26 #[.agg #[.int .u8 c.f0, .int .u64 c.f1, .int .u8 c.f2.f0, .int .u64 c.f2.f1, .int .u64 c.f2.f2, .slice A5 c.f2.f3.length c5, .slice A6 c.f2.f4.length c6, .bool c.f2.f5, .int .u8 c.f2.f6, .int .u8 c.f3, .slice A10 c.f4.length c10, .int .i64 c.f5, .int .i64 c.f6], .agg #[.bool true, .slice Ax lx.length cx]] w fun e w' => e = .returned (.tuple #[.bool false, .agg #[.bool true, .slice Ax lx.length cx]]) ∧ Below w.heap.size w w' := by
  have HB := Aside0.mk (Below.refl w.heap.size w)
  have G5 := Aside0.mk g5
  clear g5
  have G6 := Aside0.mk g6
  clear g6
  have G10 := Aside0.mk g10
  clear g10
  have GX := Aside0.mk gx
  clear gx
  have HN := Aside0.mk hn
  clear hn
  have KN := Aside0.mk hk
  clear hk
  have HA := Aside0.mk ha
  clear ha
  go_enter Try.func26, Try.ntmps26
  have hu := Try.underlying60
  have hu2 := Try.underlying27
  have hu3 := Try.underlying30
  go_wp2_with (first | ((with_reducible refine gate_dst (N := 2) rfl ?_); (try (refine gate_guard (by rfl) ?_; dsimp only)); refine box_event (by rfl) (N := 2) (by rfl) (cs := #[.int .u8 c.f0, .int .u64 c.f1, .int .u8 c.f2.f0, .int .u64 c.f2.f1, .int .u64 c.f2.f2, .slice A5 c.f2.f3.length c5, .slice A6 c.f2.f4.length c6, .bool c.f2.f5, .int .u8 c.f2.f6, .int .u8 c.f3, .slice A10 c.f4.length c10, .int .i64 c.f5, .int .i64 c.f6]) (t := 30) ?hrz467 ?_; (case hrz467 => first | (go_simp; done) | (go_simp; rfl)); intro gc hg_ wq466 hbox hb; have gc_G := gG_ hg_ HB; have gc_B := Aside0.mk hbox; obtain ⟨gc_0, gc_1, gc_2, gc_3, gc_4, gc_5, gc_6, gc_7, gc_8, gc_9, gc_10, gc_11, gc_12, gc_f0, gc_f1, gc_f2, gc_f3, gc_f4, gc_f5, gc_f6, gc_f7, gc_f8, gc_f9, gc_f10, gc_f11, gc_f12⟩ := cz13_ hbox; replace HB := Aside0.mk (below_step HB.out hb); clear hbox hb hg_) | ((with_reducible refine gate_dst (N := 3) rfl ?_); (try (refine gate_guard (by rfl) ?_; dsimp only)); refine box_event (by rfl) (N := 3) (by rfl) (cs := #[.bool true, .slice Ax lx.length cx]) (t := 60) ?hrz469 ?_; (case hrz469 => first | (go_simp; done) | (go_simp; rfl)); intro gx hg_ wq468 hbox hb; have NE_gc_gx := nE1_ hg_ gc_B; have NE_gx_gc := nE2_ hg_ gc_B; have gx_G := gG_ hg_ HB; replace gc_B := Aside0.mk (blk_below gc_B.out hb); clear gc_0 gc_f0 gc_1 gc_f1 gc_2 gc_f2 gc_3 gc_f3 gc_4 gc_f4 gc_5 gc_f5 gc_6 gc_f6 gc_7 gc_f7 gc_8 gc_f8 gc_9 gc_f9 gc_10 gc_f10 gc_11 gc_f11 gc_12 gc_f12; obtain ⟨gc_0, gc_1, gc_2, gc_3, gc_4, gc_5, gc_6, gc_7, gc_8, gc_9, gc_10, gc_11, gc_12, gc_f0, gc_f1, gc_f2, gc_f3, gc_f4, gc_f5, gc_f6, gc_f7, gc_f8, gc_f9, gc_f10, gc_f11, gc_f12⟩ := cz13_ gc_B.out; have gx_B := Aside0.mk hbox; obtain ⟨gx_0, gx_1, gx_f0, gx_f1⟩ := cz2_ hbox; replace HB := Aside0.mk (below_step HB.out hb); clear hbox hb hg_) | ((with_reducible refine gate_dst (N := 5) rfl ?_); (try (refine gate_guard (by rfl) ?_; dsimp only)); refine box_event (by rfl) (N := 5) (by rfl) (cs := #[.bool false, .slice none 0 0]) (t := 60) ?hrz471 ?_; (case hrz471 => first | (go_simp; done) | (go_simp; rfl)); intro gr hg_ wq470 hbox hb; have NE_gc_gr := nE1_ hg_ gc_B; have NE_gr_gc := nE2_ hg_ gc_B; have NE_gx_gr := nE1_ hg_ gx_B; have NE_gr_gx := nE2_ hg_ gx_B; have gr_G := gG_ hg_ HB; replace gc_B := Aside0.mk (blk_below gc_B.out hb); clear gc_0 gc_f0 gc_1 gc_f1 gc_2 gc_f2 gc_3 gc_f3 gc_4 gc_f4 gc_5 gc_f5 gc_6 gc_f6 gc_7 gc_f7 gc_8 gc_f8 gc_9 gc_f9 gc_10 gc_f10 gc_11 gc_f11 gc_12 gc_f12; obtain ⟨gc_0, gc_1, gc_2, gc_3, gc_4, gc_5, gc_6, gc_7, gc_8, gc_9, gc_10, gc_11, gc_12, gc_f0, gc_f1, gc_f2, gc_f3, gc_f4, gc_f5, gc_f6, gc_f7, gc_f8, gc_f9, gc_f10, gc_f11, gc_f12⟩ := cz13_ gc_B.out; replace gx_B := Aside0.mk (blk_below gx_B.out hb); clear gx_0 gx_f0 gx_1 gx_f1; obtain ⟨gx_0, gx_1, gx_f0, gx_f1⟩ := cz2_ gx_B.out; have gr_B := Aside0.mk hbox; obtain ⟨gr_0, gr_1, gr_f0, gr_f1⟩ := cz2_ hbox; replace HB := Aside0.mk (below_step HB.out hb); clear hbox hb hg_) | ((with_reducible refine gate_dst (N := 7) rfl ?_); (try (refine gate_guard (by rfl) ?_; dsimp only)); refine box_event (by rfl) (N := 7) (by rfl) (cs := #[.bool false, .slice none 0 0]) (t := 60) ?hrz473 ?_; (case hrz473 => first | (go_simp; done) | (go_simp; rfl)); intro gy hg_ wq472 hbox hb; have NE_gc_gy := nE1_ hg_ gc_B; have NE_gy_gc := nE2_ hg_ gc_B; have NE_gx_gy := nE1_ hg_ gx_B; have NE_gy_gx := nE2_ hg_ gx_B; have NE_gr_gy := nE1_ hg_ gr_B; have NE_gy_gr := nE2_ hg_ gr_B; have gy_G := gG_ hg_ HB; replace gc_B := Aside0.mk (blk_below gc_B.out hb); clear gc_0 gc_f0 gc_1 gc_f1 gc_2 gc_f2 gc_3 gc_f3 gc_4 gc_f4 gc_5 gc_f5 gc_6 gc_f6 gc_7 gc_f7 gc_8 gc_f8 gc_9 gc_f9 gc_10 gc_f10 gc_11 gc_f11 gc_12 gc_f12; obtain ⟨gc_0, gc_1, gc_2, gc_3, gc_4, gc_5, gc_6, gc_7, gc_8, gc_9, gc_10, gc_11, gc_12, gc_f0, gc_f1, gc_f2, gc_f3, gc_f4, gc_f5, gc_f6, gc_f7, gc_f8, gc_f9, gc_f10, gc_f11, gc_f12⟩ := cz13_ gc_B.out; replace gx_B := Aside0.mk (blk_below gx_B.out hb); clear gx_0 gx_f0 gx_1 gx_f1; obtain ⟨gx_0, gx_1, gx_f0, gx_f1⟩ := cz2_ gx_B.out; replace gr_B := Aside0.mk (blk_below gr_B.out hb); clear gr_0 gr_f0 gr_1 gr_f1; obtain ⟨gr_0, gr_1, gr_f0, gr_f1⟩ := cz2_ gr_B.out; have gy_B := Aside0.mk hbox; obtain ⟨gy_0, gy_1, gy_f0, gy_f1⟩ := cz2_ hbox; replace HB := Aside0.mk (below_step HB.out hb); clear hbox hb hg_) | ((with_reducible refine gate_store (p := 7) rfl ?_); refine st_all (g := gy) 7 [.bool hy, .slice Ay ly.length cy] ?ttz475 ?xxz475 ?uuz475 ?htz475 ?eez475 gy_B.out ?_; (case eez475 => and_intros <;> rfl); (case htz475 => kernel_rfl); intro wq474 hbox hO; replace gc_B := Aside0.mk (hO.blk NE_gc_gy.out gc_B.out); clear gc_0 gc_f0 gc_1 gc_f1 gc_2 gc_f2 gc_3 gc_f3 gc_4 gc_f4 gc_5 gc_f5 gc_6 gc_f6 gc_7 gc_f7 gc_8 gc_f8 gc_9 gc_f9 gc_10 gc_f10 gc_11 gc_f11 gc_12 gc_f12; obtain ⟨gc_0, gc_1, gc_2, gc_3, gc_4, gc_5, gc_6, gc_7, gc_8, gc_9, gc_10, gc_11, gc_12, gc_f0, gc_f1, gc_f2, gc_f3, gc_f4, gc_f5, gc_f6, gc_f7, gc_f8, gc_f9, gc_f10, gc_f11, gc_f12⟩ := cz13_ gc_B.out; replace gx_B := Aside0.mk (hO.blk NE_gx_gy.out gx_B.out); clear gx_0 gx_f0 gx_1 gx_f1; obtain ⟨gx_0, gx_1, gx_f0, gx_f1⟩ := cz2_ gx_B.out; replace gr_B := Aside0.mk (hO.blk NE_gr_gy.out gr_B.out); clear gr_0 gr_f0 gr_1 gr_f1; obtain ⟨gr_0, gr_1, gr_f0, gr_f1⟩ := cz2_ gr_B.out; clear gy_B; clear gy_0 gy_f0 gy_1 gy_f1; have gy_B := Aside0.mk hbox; obtain ⟨gy_0, gy_1, gy_f0, gy_f1⟩ := cz2_ hbox; replace HB := Aside0.mk (hO.below HB.out gy_G.out); clear hbox hO) | (go_at_call 46; refine (HA.out _ ?s0_z477).mono ?_; (case s0_z477 => with_reducible exact HB.out); rintro e wq476 ⟨rfl, hb⟩; replace gc_B := Aside0.mk (blk_below gc_B.out hb); clear gc_0 gc_f0 gc_1 gc_f1 gc_2 gc_f2 gc_3 gc_f3 gc_4 gc_f4 gc_5 gc_f5 gc_6 gc_f6 gc_7 gc_f7 gc_8 gc_f8 gc_9 gc_f9 gc_10 gc_f10 gc_11 gc_f11 gc_12 gc_f12; obtain ⟨gc_0, gc_1, gc_2, gc_3, gc_4, gc_5, gc_6, gc_7, gc_8, gc_9, gc_10, gc_11, gc_12, gc_f0, gc_f1, gc_f2, gc_f3, gc_f4, gc_f5, gc_f6, gc_f7, gc_f8, gc_f9, gc_f10, gc_f11, gc_f12⟩ := cz13_ gc_B.out; replace gx_B := Aside0.mk (blk_below gx_B.out hb); clear gx_0 gx_f0 gx_1 gx_f1; obtain ⟨gx_0, gx_1, gx_f0, gx_f1⟩ := cz2_ gx_B.out; replace gr_B := Aside0.mk (blk_below gr_B.out hb); clear gr_0 gr_f0 gr_1 gr_f1; obtain ⟨gr_0, gr_1, gr_f0, gr_f1⟩ := cz2_ gr_B.out; replace HB := Aside0.mk (below_step HB.out hb); clear hb) | (go_at_call 45; refine (Known_calls c true A5 c5 A6 c6 A10 c10 _ ?s0_z479 ?s1_z479 ?s2_z479 ?s3_z479).mono ?_; (case s0_z479 => exact KN.out); (case s1_z479 => with_reducible exact lC G5.out HB.out); (case s2_z479 => with_reducible exact lC G6.out HB.out); (case s3_z479 => with_reducible exact lC G10.out HB.out); rintro e wq478 ⟨rfl, hb⟩; replace gc_B := Aside0.mk (blk_below gc_B.out hb); clear gc_0 gc_f0 gc_1 gc_f1 gc_2 gc_f2 gc_3 gc_f3 gc_4 gc_f4 gc_5 gc_f5 gc_6 gc_f6 gc_7 gc_f7 gc_8 gc_f8 gc_9 gc_f9 gc_10 gc_f10 gc_11 gc_f11 gc_12 gc_f12; obtain ⟨gc_0, gc_1, gc_2, gc_3, gc_4, gc_5, gc_6, gc_7, gc_8, gc_9, gc_10, gc_11, gc_12, gc_f0, gc_f1, gc_f2, gc_f3, gc_f4, gc_f5, gc_f6, gc_f7, gc_f8, gc_f9, gc_f10, gc_f11, gc_f12⟩ := cz13_ gc_B.out; replace gx_B := Aside0.mk (blk_below gx_B.out hb); clear gx_0 gx_f0 gx_1 gx_f1; obtain ⟨gx_0, gx_1, gx_f0, gx_f1⟩ := cz2_ gx_B.out; replace gr_B := Aside0.mk (blk_below gr_B.out hb); clear gr_0 gr_f0 gr_1 gr_f1; obtain ⟨gr_0, gr_1, gr_f0, gr_f1⟩ := cz2_ gr_B.out; replace gy_B := Aside0.mk (blk_below gy_B.out hb); clear gy_0 gy_f0 gy_1 gy_f1; obtain ⟨gy_0, gy_1, gy_f0, gy_f1⟩ := cz2_ gy_B.out; replace HB := Aside0.mk (below_step HB.out hb); clear hb) | (go_at_call 47; refine (same14_calls true Ax cx lx A10 c10 c.f4 _ ?s0_z481 ?s1_z481 ?s2_z481 ?s3_z481).mono ?_; (case s0_z481 => with_reducible exact lC GX.out HB.out); (case s1_z481 => with_reducible exact lC G10.out HB.out); (case s2_z481 => exact HN.out); (case s3_z481 => exact HS.out); rintro e wq480 ⟨rfl, hb⟩; replace gc_B := Aside0.mk (blk_below gc_B.out hb); clear gc_0 gc_f0 gc_1 gc_f1 gc_2 gc_f2 gc_3 gc_f3 gc_4 gc_f4 gc_5 gc_f5 gc_6 gc_f6 gc_7 gc_f7 gc_8 gc_f8 gc_9 gc_f9 gc_10 gc_f10 gc_11 gc_f11 gc_12 gc_f12; obtain ⟨gc_0, gc_1, gc_2, gc_3, gc_4, gc_5, gc_6, gc_7, gc_8, gc_9, gc_10, gc_11, gc_12, gc_f0, gc_f1, gc_f2, gc_f3, gc_f4, gc_f5, gc_f6, gc_f7, gc_f8, gc_f9, gc_f10, gc_f11, gc_f12⟩ := cz13_ gc_B.out; replace gx_B := Aside0.mk (blk_below gx_B.out hb); clear gx_0 gx_f0 gx_1 gx_f1; obtain ⟨gx_0, gx_1, gx_f0, gx_f1⟩ := cz2_ gx_B.out; replace gr_B := Aside0.mk (blk_below gr_B.out hb); clear gr_0 gr_f0 gr_1 gr_f1; obtain ⟨gr_0, gr_1, gr_f0, gr_f1⟩ := cz2_ gr_B.out; replace gy_B := Aside0.mk (blk_below gy_B.out hb); clear gy_0 gy_f0 gy_1 gy_f1; obtain ⟨gy_0, gy_1, gy_f0, gy_f1⟩ := cz2_ gy_B.out; replace HB := Aside0.mk (below_step HB.out hb); clear hb))
  refine start_w (n := 10) (S := fun w' => w'.cell? ⟨gc, 0, none⟩ = some (.int .u8 c.f0) ∧ w'.cell? ⟨gc, 1, none⟩ = some (.int .u64 c.f1) ∧ w'.cell? ⟨gc, 2, none⟩ = some (.int .u8 c.f2.f0) ∧ w'.cell? ⟨gc, 3, none⟩ = some (.int .u64 c.f2.f1) ∧ w'.cell? ⟨gc, 4, none⟩ = some (.int .u64 c.f2.f2) ∧ w'.cell? ⟨gc, 5, none⟩ = some (.slice A5 c.f2.f3.length c5) ∧ w'.cell? ⟨gc, 6, none⟩ = some (.slice A6 c.f2.f4.length c6) ∧ w'.cell? ⟨gc, 7, none⟩ = some (.bool c.f2.f5) ∧ w'.cell? ⟨gc, 8, none⟩ = some (.int .u8 c.f2.f6) ∧ w'.cell? ⟨gc, 9, none⟩ = some (.int .u8 c.f3) ∧ w'.cell? ⟨gc, 10, none⟩ = some (.slice A10 c.f4.length c10) ∧ w'.cell? ⟨gc, 11, none⟩ = some (.int .i64 c.f5) ∧ w'.cell? ⟨gc, 12, none⟩ = some (.int .i64 c.f6) ∧ w'.cell? ⟨gx, 0, none⟩ = some (.bool true) ∧ w'.cell? ⟨gx, 1, none⟩ = some (.slice Ax lx.length cx) ∧ w'.cell? ⟨gy, 0, none⟩ = some (.bool hy) ∧ w'.cell? ⟨gy, 1, none⟩ = some (.slice Ay ly.length cy)) (ds := []) (bl_ 10 0) (by kernel_rfl) rfl rfl ?_
  intro wq482 hb
  replace gc_B := Aside0.mk (blk_below gc_B.out hb)
  clear gc_0 gc_f0 gc_1 gc_f1 gc_2 gc_f2 gc_3 gc_f3 gc_4 gc_f4 gc_5 gc_f5 gc_6 gc_f6 gc_7 gc_f7 gc_8 gc_f8 gc_9 gc_f9 gc_10 gc_f10 gc_11 gc_f11 gc_12 gc_f12
  obtain ⟨gc_0, gc_1, gc_2, gc_3, gc_4, gc_5, gc_6, gc_7, gc_8, gc_9, gc_10, gc_11, gc_12, gc_f0, gc_f1, gc_f2, gc_f3, gc_f4, gc_f5, gc_f6, gc_f7, gc_f8, gc_f9, gc_f10, gc_f11, gc_f12⟩ := cz13_ gc_B.out
  replace gx_B := Aside0.mk (blk_below gx_B.out hb)
  clear gx_0 gx_f0 gx_1 gx_f1
  obtain ⟨gx_0, gx_1, gx_f0, gx_f1⟩ := cz2_ gx_B.out
  replace gr_B := Aside0.mk (blk_below gr_B.out hb)
  clear gr_0 gr_f0 gr_1 gr_f1
  obtain ⟨gr_0, gr_1, gr_f0, gr_f1⟩ := cz2_ gr_B.out
  replace gy_B := Aside0.mk (blk_below gy_B.out hb)
  clear gy_0 gy_f0 gy_1 gy_f1
  obtain ⟨gy_0, gy_1, gy_f0, gy_f1⟩ := cz2_ gy_B.out
  replace HB := Aside0.mk (below_step HB.out hb)
  clear hb
  refine pure_ (i := 0) (N := (some 22)) (v := ?_) (a' := ?_) (bl_ 10 1) rfl rfl (by kernel_rfl) (fun _ _ _ h => h) (Or.inl ⟨by rfl, ?_⟩) ?_ ?_
  rotate_left
  · intro w'; go_simp; with_reducible rfl
  rotate_left
  · simp only [Act.put, List.setIfInBounds_toArray, List.set_cons_zero, List.set_cons_succ, i64_w, i32_w]; rfl
  refine take_ (i := 1) (N := (some 23)) (v := ?_) (a' := ?_) (bl_ 10 3) rfl rfl (by kernel_rfl) (fun _ _ _ h => h) (Or.inl ⟨by rfl, ?_⟩) ⟨gc_0, gc_1, gc_2, gc_3, gc_4, gc_5, gc_6, gc_7, gc_8, gc_9, gc_10, gc_11, gc_12, gx_0, gx_1, gy_0, gy_1⟩ ?_ ?_
  rotate_left
  · rintro w' ⟨s_0, s_1, s_2, s_3, s_4, s_5, s_6, s_7, s_8, s_9, s_10, s_11, s_12, s_13, s_14, s_15, s_16⟩; go_simp; with_reducible rfl
  rotate_left
  · simp only [Act.put, List.setIfInBounds_toArray, List.set_cons_zero, List.set_cons_succ, i64_w, i32_w]; rfl
  refine pure_ (i := 2) (N := (some 24)) (v := ?_) (a' := ?_) (bl_ 10 7) rfl rfl (by kernel_rfl) (fun _ _ _ h => h) (Or.inl ⟨by rfl, ?_⟩) ?_ ?_
  rotate_left
  · intro w'; go_simp; with_reducible rfl
  rotate_left
  · simp only [Act.put, List.setIfInBounds_toArray, List.set_cons_zero, List.set_cons_succ, i64_w, i32_w]; rfl
  refine pure_ (i := 3) (N := (some 25)) (v := ?_) (a' := ?_) (bl_ 10 15) rfl rfl (by kernel_rfl) (fun _ _ _ h => h) (Or.inl ⟨by rfl, ?_⟩) ?_ ?_
  rotate_left
  · intro w'; go_simp; with_reducible rfl
  rotate_left
  · simp only [Act.put, List.setIfInBounds_toArray, List.set_cons_zero, List.set_cons_succ, i64_w, i32_w]; rfl
  refine pure_ (i := 4) (N := (some 26)) (v := undef) (a' := ?_) (bl_ 10 31) rfl rfl (by kernel_rfl) (fun _ _ _ h => h) (Or.inr ⟨by rfl, rfl⟩) ?_ ?_
  rotate_left
  · simp only [Act.put, List.setIfInBounds_toArray, List.set_cons_zero, List.set_cons_succ, i64_w, i32_w]; rfl
  refine pure_ (i := 5) (N := (some 27)) (v := undef) (a' := ?_) (bl_ 10 63) rfl rfl (by kernel_rfl) (fun _ _ _ h => h) (Or.inr ⟨by rfl, rfl⟩) ?_ ?_
  rotate_left
  · simp only [Act.put, List.setIfInBounds_toArray, List.set_cons_zero, List.set_cons_succ, i64_w, i32_w]; rfl
  refine pure_ (i := 6) (N := (some 28)) (v := ?_) (a' := ?_) (bl_ 10 127) rfl rfl (by kernel_rfl) (fun _ _ _ h => h) (Or.inl ⟨by rfl, ?_⟩) ?_ ?_
  rotate_left
  · intro w'; go_simp; with_reducible rfl
  rotate_left
  · simp only [Act.put, List.setIfInBounds_toArray, List.set_cons_zero, List.set_cons_succ, i64_w, i32_w]; rfl
  refine pure_ (i := 8) (N := (some 4)) (v := ?_) (a' := ?_) (bl_ 10 383) rfl rfl (by kernel_rfl) (fun _ _ _ h => h) (Or.inl ⟨by rfl, ?_⟩) ?_ ?_
  rotate_left
  · intro w'; go_simp; with_reducible rfl
  rotate_left
  · simp only [Act.put, List.setIfInBounds_toArray, List.set_cons_zero, List.set_cons_succ, i64_w, i32_w]; rfl
  refine take_ (i := 7) (N := (some 29)) (v := ?_) (a' := ?_) (bl_ 10 511) rfl rfl (by kernel_rfl) (fun _ _ _ h => h) (Or.inl ⟨by rfl, ?_⟩) ⟨gc_0, gc_1, gc_2, gc_3, gc_4, gc_5, gc_6, gc_7, gc_8, gc_9, gc_10, gc_11, gc_12, gx_0, gx_1, gy_0, gy_1⟩ ?_ ?_
  rotate_left
  · rintro w' ⟨s_0, s_1, s_2, s_3, s_4, s_5, s_6, s_7, s_8, s_9, s_10, s_11, s_12, s_13, s_14, s_15, s_16⟩; go_simp; with_reducible rfl
  rotate_left
  · simp only [Act.put, List.setIfInBounds_toArray, List.set_cons_zero, List.set_cons_succ, i64_w, i32_w]; rfl
  refine one_ (i := 9) (N := none) (bl_ 10 1023) rfl rfl (by kernel_rfl) (by decide) (fun K hK => ?_)
  refine st_allS (g := gr) 5 [.bool true, .slice Ax lx.length cx] ?ttz484 ?xxz484 ?uuz484 ?htz484 (by rfl) ?eez484 gr_B.out ?_
  (case eez484 => and_intros <;> rfl)
  (case htz484 => kernel_rfl)
  intro wq483 hbox hO
  replace gc_B := Aside0.mk (hO.blk NE_gc_gr.out gc_B.out)
  clear gc_0 gc_f0 gc_1 gc_f1 gc_2 gc_f2 gc_3 gc_f3 gc_4 gc_f4 gc_5 gc_f5 gc_6 gc_f6 gc_7 gc_f7 gc_8 gc_f8 gc_9 gc_f9 gc_10 gc_f10 gc_11 gc_f11 gc_12 gc_f12
  obtain ⟨gc_0, gc_1, gc_2, gc_3, gc_4, gc_5, gc_6, gc_7, gc_8, gc_9, gc_10, gc_11, gc_12, gc_f0, gc_f1, gc_f2, gc_f3, gc_f4, gc_f5, gc_f6, gc_f7, gc_f8, gc_f9, gc_f10, gc_f11, gc_f12⟩ := cz13_ gc_B.out
  replace gx_B := Aside0.mk (hO.blk NE_gx_gr.out gx_B.out)
  clear gx_0 gx_f0 gx_1 gx_f1
  obtain ⟨gx_0, gx_1, gx_f0, gx_f1⟩ := cz2_ gx_B.out
  replace gy_B := Aside0.mk (hO.blk NE_gy_gr.out gy_B.out)
  clear gy_0 gy_f0 gy_1 gy_f1
  obtain ⟨gy_0, gy_1, gy_f0, gy_f1⟩ := cz2_ gy_B.out
  clear gr_B
  clear gr_0 gr_f0 gr_1 gr_f1
  have gr_B := Aside0.mk hbox
  obtain ⟨gr_0, gr_1, gr_f0, gr_f1⟩ := cz2_ hbox
  replace HB := Aside0.mk (hO.below HB.out gr_G.out)
  clear hbox hO
  refine hK.out _ _ ⟨gc_0, gc_1, gc_2, gc_3, gc_4, gc_5, gc_6, gc_7, gc_8, gc_9, gc_10, gc_11, gc_12, gx_0, gx_1, gy_0, gy_1⟩ (fun _ => ?_)
  clear hK K
  refine norm_ (a' := ?_) ?_ ?_
  rotate_left
  · rfl
  refine done_ (by kernel_rfl) ?_
  go_wp2
  refine bodyPost_ret (results_tc rfl _ _ gr 60 #[.bool true, .slice Ax lx.length cx] (0, 0) _ rfl gr_B.out Try.underlying60 rfl (by kernel_rfl)) rfl ?_
  exact ⟨rfl, HB.out⟩
set_option maxHeartbeats 8000000 in
set_option maxRecDepth 100000 in
theorem Play_ncf (c : S30) (A5 : Option Addr) (c5 : Nat) (A6 : Option Addr) (c6 : Nat) (A10 : Option Addr) (c10 : Nat) (st : Int) (b : Bool) (hy : Bool) (Ay : Option Addr) (cy : Nat) (ly : List Int) (Ax : Option Addr) (cx : Nat) (lx : List Int) (w : World) (g5 : RdL w A5 c5 c.f2.f3) (g6 : RdL w A6 c6 c.f2.f4) (g10 : RdL w A10 c10 c.f4) (gx : RdL w Ax cx lx) (hn : lx.length < 4611686018427387904) (b0 : 0 ≤ c.f3) (b1 : c.f3 ≤ 255) (hk : (c.f6 != -1) = true) (ha : ∀ W, Below w.heap.size w W → Calls Try.prog 46 #[.agg #[.int .u8 c.f2.f0, .int .u64 c.f2.f1, .int .u64 c.f2.f2, .slice A5 c.f2.f3.length c5, .slice A6 c.f2.f4.length c6, .bool c.f2.f5, .int .u8 c.f2.f6], .agg #[.bool false, .slice Ax lx.length cx]] W fun e w' => e = .returned (.tuple #[.int .i64 st, .agg #[.bool hy, .slice Ay ly.length cy]]) ∧ Below W.heap.size W w') (f0 : (c.f3 == 4) = true) (f1 : (st == 1) = b) :
    Calls Try.prog 26 #[.agg #[.int .u8 c.f0, .int .u64 c.f1, .int .u8 c.f2.f0, .int .u64 c.f2.f1, .int .u64 c.f2.f2, .slice A5 c.f2.f3.length c5, .slice A6 c.f2.f4.length c6, .bool c.f2.f5, .int .u8 c.f2.f6, .int .u8 c.f3, .slice A10 c.f4.length c10, .int .i64 c.f5, .int .i64 c.f6], .agg #[.bool false, .slice Ax lx.length cx]] w fun e w' => e = .returned (.tuple #[.bool b, .agg #[.bool false, .slice Ax lx.length cx]]) ∧ Below w.heap.size w w' := by
  have HB := Aside0.mk (Below.refl w.heap.size w)
  have G5 := Aside0.mk g5
  clear g5
  have G6 := Aside0.mk g6
  clear g6
  have G10 := Aside0.mk g10
  clear g10
  have GX := Aside0.mk gx
  clear gx
  have HN := Aside0.mk hn
  clear hn
  have KN := Aside0.mk hk
  clear hk
  have HA := Aside0.mk ha
  clear ha
  go_enter Try.func26, Try.ntmps26
  have hu := Try.underlying60
  have hu2 := Try.underlying27
  have hu3 := Try.underlying30
  go_wp2_with (first | ((with_reducible refine gate_dst (N := 2) rfl ?_); (try (refine gate_guard (by rfl) ?_; dsimp only)); refine box_event (by rfl) (N := 2) (by rfl) (cs := #[.int .u8 c.f0, .int .u64 c.f1, .int .u8 c.f2.f0, .int .u64 c.f2.f1, .int .u64 c.f2.f2, .slice A5 c.f2.f3.length c5, .slice A6 c.f2.f4.length c6, .bool c.f2.f5, .int .u8 c.f2.f6, .int .u8 c.f3, .slice A10 c.f4.length c10, .int .i64 c.f5, .int .i64 c.f6]) (t := 30) ?hrz486 ?_; (case hrz486 => first | (go_simp; done) | (go_simp; rfl)); intro gc hg_ wq485 hbox hb; have gc_G := gG_ hg_ HB; have gc_B := Aside0.mk hbox; obtain ⟨gc_0, gc_1, gc_2, gc_3, gc_4, gc_5, gc_6, gc_7, gc_8, gc_9, gc_10, gc_11, gc_12, gc_f0, gc_f1, gc_f2, gc_f3, gc_f4, gc_f5, gc_f6, gc_f7, gc_f8, gc_f9, gc_f10, gc_f11, gc_f12⟩ := cz13_ hbox; replace HB := Aside0.mk (below_step HB.out hb); clear hbox hb hg_) | ((with_reducible refine gate_dst (N := 3) rfl ?_); (try (refine gate_guard (by rfl) ?_; dsimp only)); refine box_event (by rfl) (N := 3) (by rfl) (cs := #[.bool false, .slice Ax lx.length cx]) (t := 60) ?hrz488 ?_; (case hrz488 => first | (go_simp; done) | (go_simp; rfl)); intro gx hg_ wq487 hbox hb; have NE_gc_gx := nE1_ hg_ gc_B; have NE_gx_gc := nE2_ hg_ gc_B; have gx_G := gG_ hg_ HB; replace gc_B := Aside0.mk (blk_below gc_B.out hb); clear gc_0 gc_f0 gc_1 gc_f1 gc_2 gc_f2 gc_3 gc_f3 gc_4 gc_f4 gc_5 gc_f5 gc_6 gc_f6 gc_7 gc_f7 gc_8 gc_f8 gc_9 gc_f9 gc_10 gc_f10 gc_11 gc_f11 gc_12 gc_f12; obtain ⟨gc_0, gc_1, gc_2, gc_3, gc_4, gc_5, gc_6, gc_7, gc_8, gc_9, gc_10, gc_11, gc_12, gc_f0, gc_f1, gc_f2, gc_f3, gc_f4, gc_f5, gc_f6, gc_f7, gc_f8, gc_f9, gc_f10, gc_f11, gc_f12⟩ := cz13_ gc_B.out; have gx_B := Aside0.mk hbox; obtain ⟨gx_0, gx_1, gx_f0, gx_f1⟩ := cz2_ hbox; replace HB := Aside0.mk (below_step HB.out hb); clear hbox hb hg_) | ((with_reducible refine gate_dst (N := 5) rfl ?_); (try (refine gate_guard (by rfl) ?_; dsimp only)); refine box_event (by rfl) (N := 5) (by rfl) (cs := #[.bool false, .slice none 0 0]) (t := 60) ?hrz490 ?_; (case hrz490 => first | (go_simp; done) | (go_simp; rfl)); intro gr hg_ wq489 hbox hb; have NE_gc_gr := nE1_ hg_ gc_B; have NE_gr_gc := nE2_ hg_ gc_B; have NE_gx_gr := nE1_ hg_ gx_B; have NE_gr_gx := nE2_ hg_ gx_B; have gr_G := gG_ hg_ HB; replace gc_B := Aside0.mk (blk_below gc_B.out hb); clear gc_0 gc_f0 gc_1 gc_f1 gc_2 gc_f2 gc_3 gc_f3 gc_4 gc_f4 gc_5 gc_f5 gc_6 gc_f6 gc_7 gc_f7 gc_8 gc_f8 gc_9 gc_f9 gc_10 gc_f10 gc_11 gc_f11 gc_12 gc_f12; obtain ⟨gc_0, gc_1, gc_2, gc_3, gc_4, gc_5, gc_6, gc_7, gc_8, gc_9, gc_10, gc_11, gc_12, gc_f0, gc_f1, gc_f2, gc_f3, gc_f4, gc_f5, gc_f6, gc_f7, gc_f8, gc_f9, gc_f10, gc_f11, gc_f12⟩ := cz13_ gc_B.out; replace gx_B := Aside0.mk (blk_below gx_B.out hb); clear gx_0 gx_f0 gx_1 gx_f1; obtain ⟨gx_0, gx_1, gx_f0, gx_f1⟩ := cz2_ gx_B.out; have gr_B := Aside0.mk hbox; obtain ⟨gr_0, gr_1, gr_f0, gr_f1⟩ := cz2_ hbox; replace HB := Aside0.mk (below_step HB.out hb); clear hbox hb hg_) | ((with_reducible refine gate_dst (N := 7) rfl ?_); (try (refine gate_guard (by rfl) ?_; dsimp only)); refine box_event (by rfl) (N := 7) (by rfl) (cs := #[.bool false, .slice none 0 0]) (t := 60) ?hrz492 ?_; (case hrz492 => first | (go_simp; done) | (go_simp; rfl)); intro gy hg_ wq491 hbox hb; have NE_gc_gy := nE1_ hg_ gc_B; have NE_gy_gc := nE2_ hg_ gc_B; have NE_gx_gy := nE1_ hg_ gx_B; have NE_gy_gx := nE2_ hg_ gx_B; have NE_gr_gy := nE1_ hg_ gr_B; have NE_gy_gr := nE2_ hg_ gr_B; have gy_G := gG_ hg_ HB; replace gc_B := Aside0.mk (blk_below gc_B.out hb); clear gc_0 gc_f0 gc_1 gc_f1 gc_2 gc_f2 gc_3 gc_f3 gc_4 gc_f4 gc_5 gc_f5 gc_6 gc_f6 gc_7 gc_f7 gc_8 gc_f8 gc_9 gc_f9 gc_10 gc_f10 gc_11 gc_f11 gc_12 gc_f12; obtain ⟨gc_0, gc_1, gc_2, gc_3, gc_4, gc_5, gc_6, gc_7, gc_8, gc_9, gc_10, gc_11, gc_12, gc_f0, gc_f1, gc_f2, gc_f3, gc_f4, gc_f5, gc_f6, gc_f7, gc_f8, gc_f9, gc_f10, gc_f11, gc_f12⟩ := cz13_ gc_B.out; replace gx_B := Aside0.mk (blk_below gx_B.out hb); clear gx_0 gx_f0 gx_1 gx_f1; obtain ⟨gx_0, gx_1, gx_f0, gx_f1⟩ := cz2_ gx_B.out; replace gr_B := Aside0.mk (blk_below gr_B.out hb); clear gr_0 gr_f0 gr_1 gr_f1; obtain ⟨gr_0, gr_1, gr_f0, gr_f1⟩ := cz2_ gr_B.out; have gy_B := Aside0.mk hbox; obtain ⟨gy_0, gy_1, gy_f0, gy_f1⟩ := cz2_ hbox; replace HB := Aside0.mk (below_step HB.out hb); clear hbox hb hg_) | ((with_reducible refine gate_store (p := 7) rfl ?_); refine st_all (g := gy) 7 [.bool hy, .slice Ay ly.length cy] ?ttz494 ?xxz494 ?uuz494 ?htz494 ?eez494 gy_B.out ?_; (case eez494 => and_intros <;> rfl); (case htz494 => kernel_rfl); intro wq493 hbox hO; replace gc_B := Aside0.mk (hO.blk NE_gc_gy.out gc_B.out); clear gc_0 gc_f0 gc_1 gc_f1 gc_2 gc_f2 gc_3 gc_f3 gc_4 gc_f4 gc_5 gc_f5 gc_6 gc_f6 gc_7 gc_f7 gc_8 gc_f8 gc_9 gc_f9 gc_10 gc_f10 gc_11 gc_f11 gc_12 gc_f12; obtain ⟨gc_0, gc_1, gc_2, gc_3, gc_4, gc_5, gc_6, gc_7, gc_8, gc_9, gc_10, gc_11, gc_12, gc_f0, gc_f1, gc_f2, gc_f3, gc_f4, gc_f5, gc_f6, gc_f7, gc_f8, gc_f9, gc_f10, gc_f11, gc_f12⟩ := cz13_ gc_B.out; replace gx_B := Aside0.mk (hO.blk NE_gx_gy.out gx_B.out); clear gx_0 gx_f0 gx_1 gx_f1; obtain ⟨gx_0, gx_1, gx_f0, gx_f1⟩ := cz2_ gx_B.out; replace gr_B := Aside0.mk (hO.blk NE_gr_gy.out gr_B.out); clear gr_0 gr_f0 gr_1 gr_f1; obtain ⟨gr_0, gr_1, gr_f0, gr_f1⟩ := cz2_ gr_B.out; clear gy_B; clear gy_0 gy_f0 gy_1 gy_f1; have gy_B := Aside0.mk hbox; obtain ⟨gy_0, gy_1, gy_f0, gy_f1⟩ := cz2_ hbox; replace HB := Aside0.mk (hO.below HB.out gy_G.out); clear hbox hO) | (go_at_call 46; refine (HA.out _ ?s0_z496).mono ?_; (case s0_z496 => with_reducible exact HB.out); rintro e wq495 ⟨rfl, hb⟩; replace gc_B := Aside0.mk (blk_below gc_B.out hb); clear gc_0 gc_f0 gc_1 gc_f1 gc_2 gc_f2 gc_3 gc_f3 gc_4 gc_f4 gc_5 gc_f5 gc_6 gc_f6 gc_7 gc_f7 gc_8 gc_f8 gc_9 gc_f9 gc_10 gc_f10 gc_11 gc_f11 gc_12 gc_f12; obtain ⟨gc_0, gc_1, gc_2, gc_3, gc_4, gc_5, gc_6, gc_7, gc_8, gc_9, gc_10, gc_11, gc_12, gc_f0, gc_f1, gc_f2, gc_f3, gc_f4, gc_f5, gc_f6, gc_f7, gc_f8, gc_f9, gc_f10, gc_f11, gc_f12⟩ := cz13_ gc_B.out; replace gx_B := Aside0.mk (blk_below gx_B.out hb); clear gx_0 gx_f0 gx_1 gx_f1; obtain ⟨gx_0, gx_1, gx_f0, gx_f1⟩ := cz2_ gx_B.out; replace gr_B := Aside0.mk (blk_below gr_B.out hb); clear gr_0 gr_f0 gr_1 gr_f1; obtain ⟨gr_0, gr_1, gr_f0, gr_f1⟩ := cz2_ gr_B.out; replace HB := Aside0.mk (below_step HB.out hb); clear hb) | (go_at_call 45; refine (Known_calls c true A5 c5 A6 c6 A10 c10 _ ?s0_z498 ?s1_z498 ?s2_z498 ?s3_z498).mono ?_; (case s0_z498 => exact KN.out); (case s1_z498 => with_reducible exact lC G5.out HB.out); (case s2_z498 => with_reducible exact lC G6.out HB.out); (case s3_z498 => with_reducible exact lC G10.out HB.out); rintro e wq497 ⟨rfl, hb⟩; replace gc_B := Aside0.mk (blk_below gc_B.out hb); clear gc_0 gc_f0 gc_1 gc_f1 gc_2 gc_f2 gc_3 gc_f3 gc_4 gc_f4 gc_5 gc_f5 gc_6 gc_f6 gc_7 gc_f7 gc_8 gc_f8 gc_9 gc_f9 gc_10 gc_f10 gc_11 gc_f11 gc_12 gc_f12; obtain ⟨gc_0, gc_1, gc_2, gc_3, gc_4, gc_5, gc_6, gc_7, gc_8, gc_9, gc_10, gc_11, gc_12, gc_f0, gc_f1, gc_f2, gc_f3, gc_f4, gc_f5, gc_f6, gc_f7, gc_f8, gc_f9, gc_f10, gc_f11, gc_f12⟩ := cz13_ gc_B.out; replace gx_B := Aside0.mk (blk_below gx_B.out hb); clear gx_0 gx_f0 gx_1 gx_f1; obtain ⟨gx_0, gx_1, gx_f0, gx_f1⟩ := cz2_ gx_B.out; replace gr_B := Aside0.mk (blk_below gr_B.out hb); clear gr_0 gr_f0 gr_1 gr_f1; obtain ⟨gr_0, gr_1, gr_f0, gr_f1⟩ := cz2_ gr_B.out; replace gy_B := Aside0.mk (blk_below gy_B.out hb); clear gy_0 gy_f0 gy_1 gy_f1; obtain ⟨gy_0, gy_1, gy_f0, gy_f1⟩ := cz2_ gy_B.out; replace HB := Aside0.mk (below_step HB.out hb); clear hb) | (go_at_call 47; refine (same14_calls true Ax cx lx A10 c10 c.f4 _ ?s0_z500 ?s1_z500 ?s2_z500 ?s3_z500).mono ?_; (case s0_z500 => with_reducible exact lC GX.out HB.out); (case s1_z500 => with_reducible exact lC G10.out HB.out); (case s2_z500 => exact HN.out); (case s3_z500 => exact HS.out); rintro e wq499 ⟨rfl, hb⟩; replace gc_B := Aside0.mk (blk_below gc_B.out hb); clear gc_0 gc_f0 gc_1 gc_f1 gc_2 gc_f2 gc_3 gc_f3 gc_4 gc_f4 gc_5 gc_f5 gc_6 gc_f6 gc_7 gc_f7 gc_8 gc_f8 gc_9 gc_f9 gc_10 gc_f10 gc_11 gc_f11 gc_12 gc_f12; obtain ⟨gc_0, gc_1, gc_2, gc_3, gc_4, gc_5, gc_6, gc_7, gc_8, gc_9, gc_10, gc_11, gc_12, gc_f0, gc_f1, gc_f2, gc_f3, gc_f4, gc_f5, gc_f6, gc_f7, gc_f8, gc_f9, gc_f10, gc_f11, gc_f12⟩ := cz13_ gc_B.out; replace gx_B := Aside0.mk (blk_below gx_B.out hb); clear gx_0 gx_f0 gx_1 gx_f1; obtain ⟨gx_0, gx_1, gx_f0, gx_f1⟩ := cz2_ gx_B.out; replace gr_B := Aside0.mk (blk_below gr_B.out hb); clear gr_0 gr_f0 gr_1 gr_f1; obtain ⟨gr_0, gr_1, gr_f0, gr_f1⟩ := cz2_ gr_B.out; replace gy_B := Aside0.mk (blk_below gy_B.out hb); clear gy_0 gy_f0 gy_1 gy_f1; obtain ⟨gy_0, gy_1, gy_f0, gy_f1⟩ := cz2_ gy_B.out; replace HB := Aside0.mk (below_step HB.out hb); clear hb))
  refine start_w (n := 10) (S := fun w' => w'.cell? ⟨gc, 0, none⟩ = some (.int .u8 c.f0) ∧ w'.cell? ⟨gc, 1, none⟩ = some (.int .u64 c.f1) ∧ w'.cell? ⟨gc, 2, none⟩ = some (.int .u8 c.f2.f0) ∧ w'.cell? ⟨gc, 3, none⟩ = some (.int .u64 c.f2.f1) ∧ w'.cell? ⟨gc, 4, none⟩ = some (.int .u64 c.f2.f2) ∧ w'.cell? ⟨gc, 5, none⟩ = some (.slice A5 c.f2.f3.length c5) ∧ w'.cell? ⟨gc, 6, none⟩ = some (.slice A6 c.f2.f4.length c6) ∧ w'.cell? ⟨gc, 7, none⟩ = some (.bool c.f2.f5) ∧ w'.cell? ⟨gc, 8, none⟩ = some (.int .u8 c.f2.f6) ∧ w'.cell? ⟨gc, 9, none⟩ = some (.int .u8 c.f3) ∧ w'.cell? ⟨gc, 10, none⟩ = some (.slice A10 c.f4.length c10) ∧ w'.cell? ⟨gc, 11, none⟩ = some (.int .i64 c.f5) ∧ w'.cell? ⟨gc, 12, none⟩ = some (.int .i64 c.f6) ∧ w'.cell? ⟨gx, 0, none⟩ = some (.bool false) ∧ w'.cell? ⟨gx, 1, none⟩ = some (.slice Ax lx.length cx) ∧ w'.cell? ⟨gy, 0, none⟩ = some (.bool hy) ∧ w'.cell? ⟨gy, 1, none⟩ = some (.slice Ay ly.length cy)) (ds := []) (bl_ 10 0) (by kernel_rfl) rfl rfl ?_
  intro wq501 hb
  replace gc_B := Aside0.mk (blk_below gc_B.out hb)
  clear gc_0 gc_f0 gc_1 gc_f1 gc_2 gc_f2 gc_3 gc_f3 gc_4 gc_f4 gc_5 gc_f5 gc_6 gc_f6 gc_7 gc_f7 gc_8 gc_f8 gc_9 gc_f9 gc_10 gc_f10 gc_11 gc_f11 gc_12 gc_f12
  obtain ⟨gc_0, gc_1, gc_2, gc_3, gc_4, gc_5, gc_6, gc_7, gc_8, gc_9, gc_10, gc_11, gc_12, gc_f0, gc_f1, gc_f2, gc_f3, gc_f4, gc_f5, gc_f6, gc_f7, gc_f8, gc_f9, gc_f10, gc_f11, gc_f12⟩ := cz13_ gc_B.out
  replace gx_B := Aside0.mk (blk_below gx_B.out hb)
  clear gx_0 gx_f0 gx_1 gx_f1
  obtain ⟨gx_0, gx_1, gx_f0, gx_f1⟩ := cz2_ gx_B.out
  replace gr_B := Aside0.mk (blk_below gr_B.out hb)
  clear gr_0 gr_f0 gr_1 gr_f1
  obtain ⟨gr_0, gr_1, gr_f0, gr_f1⟩ := cz2_ gr_B.out
  replace gy_B := Aside0.mk (blk_below gy_B.out hb)
  clear gy_0 gy_f0 gy_1 gy_f1
  obtain ⟨gy_0, gy_1, gy_f0, gy_f1⟩ := cz2_ gy_B.out
  replace HB := Aside0.mk (below_step HB.out hb)
  clear hb
  refine pure_ (i := 0) (N := (some 22)) (v := ?_) (a' := ?_) (bl_ 10 1) rfl rfl (by kernel_rfl) (fun _ _ _ h => h) (Or.inl ⟨by rfl, ?_⟩) ?_ ?_
  rotate_left
  · intro w'; go_simp; with_reducible rfl
  rotate_left
  · simp only [Act.put, List.setIfInBounds_toArray, List.set_cons_zero, List.set_cons_succ, i64_w, i32_w]; rfl
  refine take_ (i := 1) (N := (some 23)) (v := ?_) (a' := ?_) (bl_ 10 3) rfl rfl (by kernel_rfl) (fun _ _ _ h => h) (Or.inl ⟨by rfl, ?_⟩) ⟨gc_0, gc_1, gc_2, gc_3, gc_4, gc_5, gc_6, gc_7, gc_8, gc_9, gc_10, gc_11, gc_12, gx_0, gx_1, gy_0, gy_1⟩ ?_ ?_
  rotate_left
  · rintro w' ⟨s_0, s_1, s_2, s_3, s_4, s_5, s_6, s_7, s_8, s_9, s_10, s_11, s_12, s_13, s_14, s_15, s_16⟩; go_simp; with_reducible rfl
  rotate_left
  · simp only [Act.put, List.setIfInBounds_toArray, List.set_cons_zero, List.set_cons_succ, i64_w, i32_w]; rfl
  refine pure_ (i := 2) (N := (some 24)) (v := ?_) (a' := ?_) (bl_ 10 7) rfl rfl (by kernel_rfl) (fun _ _ _ h => h) (Or.inl ⟨by rfl, ?_⟩) ?_ ?_
  rotate_left
  · intro w'; go_simp; with_reducible rfl
  rotate_left
  · simp only [Act.put, List.setIfInBounds_toArray, List.set_cons_zero, List.set_cons_succ, i64_w, i32_w]; rfl
  refine pure_ (i := 3) (N := (some 25)) (v := ?_) (a' := ?_) (bl_ 10 15) rfl rfl (by kernel_rfl) (fun _ _ _ h => h) (Or.inl ⟨by rfl, ?_⟩) ?_ ?_
  rotate_left
  · intro w'; go_simp; with_reducible rfl
  rotate_left
  · simp only [Act.put, List.setIfInBounds_toArray, List.set_cons_zero, List.set_cons_succ, i64_w, i32_w]; rfl
  refine pure_ (i := 4) (N := (some 26)) (v := ?_) (a' := ?_) (bl_ 10 31) rfl rfl (by kernel_rfl) (fun _ _ _ h => h) (Or.inl ⟨by rfl, ?_⟩) ?_ ?_
  rotate_left
  · intro w'; go_simp; with_reducible rfl
  rotate_left
  · simp only [Act.put, List.setIfInBounds_toArray, List.set_cons_zero, List.set_cons_succ, i64_w, i32_w]; rfl
  refine pure_ (i := 5) (N := (some 27)) (v := ?_) (a' := ?_) (bl_ 10 63) rfl rfl (by kernel_rfl) (fun _ _ _ h => h) (Or.inl ⟨by rfl, ?_⟩) ?_ ?_
  rotate_left
  · intro w'; go_simp; with_reducible rfl
  rotate_left
  · simp only [Act.put, List.setIfInBounds_toArray, List.set_cons_zero, List.set_cons_succ, i64_w, i32_w]; rfl
  refine pure_ (i := 6) (N := (some 28)) (v := ?_) (a' := ?_) (bl_ 10 127) rfl rfl (by kernel_rfl) (fun _ _ _ h => h) (Or.inl ⟨by rfl, ?_⟩) ?_ ?_
  rotate_left
  · intro w'; go_simp; with_reducible rfl
  rotate_left
  · simp only [Act.put, List.setIfInBounds_toArray, List.set_cons_zero, List.set_cons_succ, i64_w, i32_w]; rfl
  refine pure_ (i := 8) (N := (some 4)) (v := ?_) (a' := ?_) (bl_ 10 383) rfl rfl (by kernel_rfl) (fun _ _ _ h => h) (Or.inl ⟨by rfl, ?_⟩) ?_ ?_
  rotate_left
  · intro w'; go_simp; with_reducible rfl
  rotate_left
  · simp only [Act.put, List.setIfInBounds_toArray, List.set_cons_zero, List.set_cons_succ, i64_w, i32_w]; rfl
  refine take_ (i := 7) (N := (some 29)) (v := ?_) (a' := ?_) (bl_ 10 511) rfl rfl (by kernel_rfl) (fun _ _ _ h => h) (Or.inl ⟨by rfl, ?_⟩) ⟨gc_0, gc_1, gc_2, gc_3, gc_4, gc_5, gc_6, gc_7, gc_8, gc_9, gc_10, gc_11, gc_12, gx_0, gx_1, gy_0, gy_1⟩ ?_ ?_
  rotate_left
  · rintro w' ⟨s_0, s_1, s_2, s_3, s_4, s_5, s_6, s_7, s_8, s_9, s_10, s_11, s_12, s_13, s_14, s_15, s_16⟩; go_simp; with_reducible rfl
  rotate_left
  · simp only [Act.put, List.setIfInBounds_toArray, List.set_cons_zero, List.set_cons_succ, i64_w, i32_w]; rfl
  refine one_ (i := 9) (N := none) (bl_ 10 1023) rfl rfl (by kernel_rfl) (by decide) (fun K hK => ?_)
  refine st_allS (g := gr) 5 [.bool false, .slice Ax lx.length cx] ?ttz503 ?xxz503 ?uuz503 ?htz503 (by rfl) ?eez503 gr_B.out ?_
  (case eez503 => and_intros <;> rfl)
  (case htz503 => kernel_rfl)
  intro wq502 hbox hO
  replace gc_B := Aside0.mk (hO.blk NE_gc_gr.out gc_B.out)
  clear gc_0 gc_f0 gc_1 gc_f1 gc_2 gc_f2 gc_3 gc_f3 gc_4 gc_f4 gc_5 gc_f5 gc_6 gc_f6 gc_7 gc_f7 gc_8 gc_f8 gc_9 gc_f9 gc_10 gc_f10 gc_11 gc_f11 gc_12 gc_f12
  obtain ⟨gc_0, gc_1, gc_2, gc_3, gc_4, gc_5, gc_6, gc_7, gc_8, gc_9, gc_10, gc_11, gc_12, gc_f0, gc_f1, gc_f2, gc_f3, gc_f4, gc_f5, gc_f6, gc_f7, gc_f8, gc_f9, gc_f10, gc_f11, gc_f12⟩ := cz13_ gc_B.out
  replace gx_B := Aside0.mk (hO.blk NE_gx_gr.out gx_B.out)
  clear gx_0 gx_f0 gx_1 gx_f1
  obtain ⟨gx_0, gx_1, gx_f0, gx_f1⟩ := cz2_ gx_B.out
  replace gy_B := Aside0.mk (hO.blk NE_gy_gr.out gy_B.out)
  clear gy_0 gy_f0 gy_1 gy_f1
  obtain ⟨gy_0, gy_1, gy_f0, gy_f1⟩ := cz2_ gy_B.out
  clear gr_B
  clear gr_0 gr_f0 gr_1 gr_f1
  have gr_B := Aside0.mk hbox
  obtain ⟨gr_0, gr_1, gr_f0, gr_f1⟩ := cz2_ hbox
  replace HB := Aside0.mk (hO.below HB.out gr_G.out)
  clear hbox hO
  refine hK.out _ _ ⟨gc_0, gc_1, gc_2, gc_3, gc_4, gc_5, gc_6, gc_7, gc_8, gc_9, gc_10, gc_11, gc_12, gx_0, gx_1, gy_0, gy_1⟩ (fun _ => ?_)
  clear hK K
  refine norm_ (a' := ?_) ?_ ?_
  rotate_left
  · rfl
  refine done_ (by kernel_rfl) ?_
  go_wp2
  refine bodyPost_ret (results_tc rfl _ _ gr 60 #[.bool false, .slice Ax lx.length cx] (0, 0) _ rfl gr_B.out Try.underlying60 rfl (by kernel_rfl)) rfl ?_
  exact ⟨rfl, HB.out⟩
set_option maxHeartbeats 8000000 in
set_option maxRecDepth 100000 in
theorem Play_ne (c : S30) (A5 : Option Addr) (c5 : Nat) (A6 : Option Addr) (c6 : Nat) (A10 : Option Addr) (c10 : Nat) (xh : Bool) (st : Int) (hy : Bool) (Ay : Option Addr) (cy : Nat) (ly : List Int) (Ax : Option Addr) (cx : Nat) (lx : List Int) (w : World) (g5 : RdL w A5 c5 c.f2.f3) (g6 : RdL w A6 c6 c.f2.f4) (g10 : RdL w A10 c10 c.f4) (gx : RdL w Ax cx lx) (hn : lx.length < 4611686018427387904) (b0 : 0 ≤ c.f3) (b1 : c.f3 ≤ 255) (hk : (c.f6 != -1) = true) (ha : ∀ W, Below w.heap.size w W → Calls Try.prog 46 #[.agg #[.int .u8 c.f2.f0, .int .u64 c.f2.f1, .int .u64 c.f2.f2, .slice A5 c.f2.f3.length c5, .slice A6 c.f2.f4.length c6, .bool c.f2.f5, .int .u8 c.f2.f6], .agg #[.bool xh, .slice Ax lx.length cx]] W fun e w' => e = .returned (.tuple #[.int .i64 st, .agg #[.bool hy, .slice Ay ly.length cy]]) ∧ Below W.heap.size W w') (f0 : (c.f3 == 4) = false) (f1 : (c.f3 != st) = true) :
    Calls Try.prog 26 #[.agg #[.int .u8 c.f0, .int .u64 c.f1, .int .u8 c.f2.f0, .int .u64 c.f2.f1, .int .u64 c.f2.f2, .slice A5 c.f2.f3.length c5, .slice A6 c.f2.f4.length c6, .bool c.f2.f5, .int .u8 c.f2.f6, .int .u8 c.f3, .slice A10 c.f4.length c10, .int .i64 c.f5, .int .i64 c.f6], .agg #[.bool xh, .slice Ax lx.length cx]] w fun e w' => e = .returned (.tuple #[.bool false, .agg #[.bool false, .slice none 0 0]]) ∧ Below w.heap.size w w' := by
  have HB := Aside0.mk (Below.refl w.heap.size w)
  have G5 := Aside0.mk g5
  clear g5
  have G6 := Aside0.mk g6
  clear g6
  have G10 := Aside0.mk g10
  clear g10
  have GX := Aside0.mk gx
  clear gx
  have HN := Aside0.mk hn
  clear hn
  have KN := Aside0.mk hk
  clear hk
  have HA := Aside0.mk ha
  clear ha
  go_enter Try.func26, Try.ntmps26
  have hu := Try.underlying60
  have hu2 := Try.underlying27
  have hu3 := Try.underlying30
  go_wp2_with (first | ((with_reducible refine gate_dst (N := 2) rfl ?_); (try (refine gate_guard (by rfl) ?_; dsimp only)); refine box_event (by rfl) (N := 2) (by rfl) (cs := #[.int .u8 c.f0, .int .u64 c.f1, .int .u8 c.f2.f0, .int .u64 c.f2.f1, .int .u64 c.f2.f2, .slice A5 c.f2.f3.length c5, .slice A6 c.f2.f4.length c6, .bool c.f2.f5, .int .u8 c.f2.f6, .int .u8 c.f3, .slice A10 c.f4.length c10, .int .i64 c.f5, .int .i64 c.f6]) (t := 30) ?hrz505 ?_; (case hrz505 => first | (go_simp; done) | (go_simp; rfl)); intro gc hg_ wq504 hbox hb; have gc_G := gG_ hg_ HB; have gc_B := Aside0.mk hbox; obtain ⟨gc_0, gc_1, gc_2, gc_3, gc_4, gc_5, gc_6, gc_7, gc_8, gc_9, gc_10, gc_11, gc_12, gc_f0, gc_f1, gc_f2, gc_f3, gc_f4, gc_f5, gc_f6, gc_f7, gc_f8, gc_f9, gc_f10, gc_f11, gc_f12⟩ := cz13_ hbox; replace HB := Aside0.mk (below_step HB.out hb); clear hbox hb hg_) | ((with_reducible refine gate_dst (N := 3) rfl ?_); (try (refine gate_guard (by rfl) ?_; dsimp only)); refine box_event (by rfl) (N := 3) (by rfl) (cs := #[.bool xh, .slice Ax lx.length cx]) (t := 60) ?hrz507 ?_; (case hrz507 => first | (go_simp; done) | (go_simp; rfl)); intro gx hg_ wq506 hbox hb; have NE_gc_gx := nE1_ hg_ gc_B; have NE_gx_gc := nE2_ hg_ gc_B; have gx_G := gG_ hg_ HB; replace gc_B := Aside0.mk (blk_below gc_B.out hb); clear gc_0 gc_f0 gc_1 gc_f1 gc_2 gc_f2 gc_3 gc_f3 gc_4 gc_f4 gc_5 gc_f5 gc_6 gc_f6 gc_7 gc_f7 gc_8 gc_f8 gc_9 gc_f9 gc_10 gc_f10 gc_11 gc_f11 gc_12 gc_f12; obtain ⟨gc_0, gc_1, gc_2, gc_3, gc_4, gc_5, gc_6, gc_7, gc_8, gc_9, gc_10, gc_11, gc_12, gc_f0, gc_f1, gc_f2, gc_f3, gc_f4, gc_f5, gc_f6, gc_f7, gc_f8, gc_f9, gc_f10, gc_f11, gc_f12⟩ := cz13_ gc_B.out; have gx_B := Aside0.mk hbox; obtain ⟨gx_0, gx_1, gx_f0, gx_f1⟩ := cz2_ hbox; replace HB := Aside0.mk (below_step HB.out hb); clear hbox hb hg_) | ((with_reducible refine gate_dst (N := 5) rfl ?_); (try (refine gate_guard (by rfl) ?_; dsimp only)); refine box_event (by rfl) (N := 5) (by rfl) (cs := #[.bool false, .slice none 0 0]) (t := 60) ?hrz509 ?_; (case hrz509 => first | (go_simp; done) | (go_simp; rfl)); intro gr hg_ wq508 hbox hb; have NE_gc_gr := nE1_ hg_ gc_B; have NE_gr_gc := nE2_ hg_ gc_B; have NE_gx_gr := nE1_ hg_ gx_B; have NE_gr_gx := nE2_ hg_ gx_B; have gr_G := gG_ hg_ HB; replace gc_B := Aside0.mk (blk_below gc_B.out hb); clear gc_0 gc_f0 gc_1 gc_f1 gc_2 gc_f2 gc_3 gc_f3 gc_4 gc_f4 gc_5 gc_f5 gc_6 gc_f6 gc_7 gc_f7 gc_8 gc_f8 gc_9 gc_f9 gc_10 gc_f10 gc_11 gc_f11 gc_12 gc_f12; obtain ⟨gc_0, gc_1, gc_2, gc_3, gc_4, gc_5, gc_6, gc_7, gc_8, gc_9, gc_10, gc_11, gc_12, gc_f0, gc_f1, gc_f2, gc_f3, gc_f4, gc_f5, gc_f6, gc_f7, gc_f8, gc_f9, gc_f10, gc_f11, gc_f12⟩ := cz13_ gc_B.out; replace gx_B := Aside0.mk (blk_below gx_B.out hb); clear gx_0 gx_f0 gx_1 gx_f1; obtain ⟨gx_0, gx_1, gx_f0, gx_f1⟩ := cz2_ gx_B.out; have gr_B := Aside0.mk hbox; obtain ⟨gr_0, gr_1, gr_f0, gr_f1⟩ := cz2_ hbox; replace HB := Aside0.mk (below_step HB.out hb); clear hbox hb hg_) | ((with_reducible refine gate_dst (N := 7) rfl ?_); (try (refine gate_guard (by rfl) ?_; dsimp only)); refine box_event (by rfl) (N := 7) (by rfl) (cs := #[.bool false, .slice none 0 0]) (t := 60) ?hrz511 ?_; (case hrz511 => first | (go_simp; done) | (go_simp; rfl)); intro gy hg_ wq510 hbox hb; have NE_gc_gy := nE1_ hg_ gc_B; have NE_gy_gc := nE2_ hg_ gc_B; have NE_gx_gy := nE1_ hg_ gx_B; have NE_gy_gx := nE2_ hg_ gx_B; have NE_gr_gy := nE1_ hg_ gr_B; have NE_gy_gr := nE2_ hg_ gr_B; have gy_G := gG_ hg_ HB; replace gc_B := Aside0.mk (blk_below gc_B.out hb); clear gc_0 gc_f0 gc_1 gc_f1 gc_2 gc_f2 gc_3 gc_f3 gc_4 gc_f4 gc_5 gc_f5 gc_6 gc_f6 gc_7 gc_f7 gc_8 gc_f8 gc_9 gc_f9 gc_10 gc_f10 gc_11 gc_f11 gc_12 gc_f12; obtain ⟨gc_0, gc_1, gc_2, gc_3, gc_4, gc_5, gc_6, gc_7, gc_8, gc_9, gc_10, gc_11, gc_12, gc_f0, gc_f1, gc_f2, gc_f3, gc_f4, gc_f5, gc_f6, gc_f7, gc_f8, gc_f9, gc_f10, gc_f11, gc_f12⟩ := cz13_ gc_B.out; replace gx_B := Aside0.mk (blk_below gx_B.out hb); clear gx_0 gx_f0 gx_1 gx_f1; obtain ⟨gx_0, gx_1, gx_f0, gx_f1⟩ := cz2_ gx_B.out; replace gr_B := Aside0.mk (blk_below gr_B.out hb); clear gr_0 gr_f0 gr_1 gr_f1; obtain ⟨gr_0, gr_1, gr_f0, gr_f1⟩ := cz2_ gr_B.out; have gy_B := Aside0.mk hbox; obtain ⟨gy_0, gy_1, gy_f0, gy_f1⟩ := cz2_ hbox; replace HB := Aside0.mk (below_step HB.out hb); clear hbox hb hg_) | ((with_reducible refine gate_store (p := 7) rfl ?_); refine st_all (g := gy) 7 [.bool hy, .slice Ay ly.length cy] ?ttz513 ?xxz513 ?uuz513 ?htz513 ?eez513 gy_B.out ?_; (case eez513 => and_intros <;> rfl); (case htz513 => kernel_rfl); intro wq512 hbox hO; replace gc_B := Aside0.mk (hO.blk NE_gc_gy.out gc_B.out); clear gc_0 gc_f0 gc_1 gc_f1 gc_2 gc_f2 gc_3 gc_f3 gc_4 gc_f4 gc_5 gc_f5 gc_6 gc_f6 gc_7 gc_f7 gc_8 gc_f8 gc_9 gc_f9 gc_10 gc_f10 gc_11 gc_f11 gc_12 gc_f12; obtain ⟨gc_0, gc_1, gc_2, gc_3, gc_4, gc_5, gc_6, gc_7, gc_8, gc_9, gc_10, gc_11, gc_12, gc_f0, gc_f1, gc_f2, gc_f3, gc_f4, gc_f5, gc_f6, gc_f7, gc_f8, gc_f9, gc_f10, gc_f11, gc_f12⟩ := cz13_ gc_B.out; replace gx_B := Aside0.mk (hO.blk NE_gx_gy.out gx_B.out); clear gx_0 gx_f0 gx_1 gx_f1; obtain ⟨gx_0, gx_1, gx_f0, gx_f1⟩ := cz2_ gx_B.out; replace gr_B := Aside0.mk (hO.blk NE_gr_gy.out gr_B.out); clear gr_0 gr_f0 gr_1 gr_f1; obtain ⟨gr_0, gr_1, gr_f0, gr_f1⟩ := cz2_ gr_B.out; clear gy_B; clear gy_0 gy_f0 gy_1 gy_f1; have gy_B := Aside0.mk hbox; obtain ⟨gy_0, gy_1, gy_f0, gy_f1⟩ := cz2_ hbox; replace HB := Aside0.mk (hO.below HB.out gy_G.out); clear hbox hO) | (go_at_call 46; refine (HA.out _ ?s0_z515).mono ?_; (case s0_z515 => with_reducible exact HB.out); rintro e wq514 ⟨rfl, hb⟩; replace gc_B := Aside0.mk (blk_below gc_B.out hb); clear gc_0 gc_f0 gc_1 gc_f1 gc_2 gc_f2 gc_3 gc_f3 gc_4 gc_f4 gc_5 gc_f5 gc_6 gc_f6 gc_7 gc_f7 gc_8 gc_f8 gc_9 gc_f9 gc_10 gc_f10 gc_11 gc_f11 gc_12 gc_f12; obtain ⟨gc_0, gc_1, gc_2, gc_3, gc_4, gc_5, gc_6, gc_7, gc_8, gc_9, gc_10, gc_11, gc_12, gc_f0, gc_f1, gc_f2, gc_f3, gc_f4, gc_f5, gc_f6, gc_f7, gc_f8, gc_f9, gc_f10, gc_f11, gc_f12⟩ := cz13_ gc_B.out; replace gx_B := Aside0.mk (blk_below gx_B.out hb); clear gx_0 gx_f0 gx_1 gx_f1; obtain ⟨gx_0, gx_1, gx_f0, gx_f1⟩ := cz2_ gx_B.out; replace gr_B := Aside0.mk (blk_below gr_B.out hb); clear gr_0 gr_f0 gr_1 gr_f1; obtain ⟨gr_0, gr_1, gr_f0, gr_f1⟩ := cz2_ gr_B.out; replace HB := Aside0.mk (below_step HB.out hb); clear hb) | (go_at_call 45; refine (Known_calls c true A5 c5 A6 c6 A10 c10 _ ?s0_z517 ?s1_z517 ?s2_z517 ?s3_z517).mono ?_; (case s0_z517 => exact KN.out); (case s1_z517 => with_reducible exact lC G5.out HB.out); (case s2_z517 => with_reducible exact lC G6.out HB.out); (case s3_z517 => with_reducible exact lC G10.out HB.out); rintro e wq516 ⟨rfl, hb⟩; replace gc_B := Aside0.mk (blk_below gc_B.out hb); clear gc_0 gc_f0 gc_1 gc_f1 gc_2 gc_f2 gc_3 gc_f3 gc_4 gc_f4 gc_5 gc_f5 gc_6 gc_f6 gc_7 gc_f7 gc_8 gc_f8 gc_9 gc_f9 gc_10 gc_f10 gc_11 gc_f11 gc_12 gc_f12; obtain ⟨gc_0, gc_1, gc_2, gc_3, gc_4, gc_5, gc_6, gc_7, gc_8, gc_9, gc_10, gc_11, gc_12, gc_f0, gc_f1, gc_f2, gc_f3, gc_f4, gc_f5, gc_f6, gc_f7, gc_f8, gc_f9, gc_f10, gc_f11, gc_f12⟩ := cz13_ gc_B.out; replace gx_B := Aside0.mk (blk_below gx_B.out hb); clear gx_0 gx_f0 gx_1 gx_f1; obtain ⟨gx_0, gx_1, gx_f0, gx_f1⟩ := cz2_ gx_B.out; replace gr_B := Aside0.mk (blk_below gr_B.out hb); clear gr_0 gr_f0 gr_1 gr_f1; obtain ⟨gr_0, gr_1, gr_f0, gr_f1⟩ := cz2_ gr_B.out; replace gy_B := Aside0.mk (blk_below gy_B.out hb); clear gy_0 gy_f0 gy_1 gy_f1; obtain ⟨gy_0, gy_1, gy_f0, gy_f1⟩ := cz2_ gy_B.out; replace HB := Aside0.mk (below_step HB.out hb); clear hb) | (go_at_call 47; refine (same14_calls true Ax cx lx A10 c10 c.f4 _ ?s0_z519 ?s1_z519 ?s2_z519 ?s3_z519).mono ?_; (case s0_z519 => with_reducible exact lC GX.out HB.out); (case s1_z519 => with_reducible exact lC G10.out HB.out); (case s2_z519 => exact HN.out); (case s3_z519 => exact HS.out); rintro e wq518 ⟨rfl, hb⟩; replace gc_B := Aside0.mk (blk_below gc_B.out hb); clear gc_0 gc_f0 gc_1 gc_f1 gc_2 gc_f2 gc_3 gc_f3 gc_4 gc_f4 gc_5 gc_f5 gc_6 gc_f6 gc_7 gc_f7 gc_8 gc_f8 gc_9 gc_f9 gc_10 gc_f10 gc_11 gc_f11 gc_12 gc_f12; obtain ⟨gc_0, gc_1, gc_2, gc_3, gc_4, gc_5, gc_6, gc_7, gc_8, gc_9, gc_10, gc_11, gc_12, gc_f0, gc_f1, gc_f2, gc_f3, gc_f4, gc_f5, gc_f6, gc_f7, gc_f8, gc_f9, gc_f10, gc_f11, gc_f12⟩ := cz13_ gc_B.out; replace gx_B := Aside0.mk (blk_below gx_B.out hb); clear gx_0 gx_f0 gx_1 gx_f1; obtain ⟨gx_0, gx_1, gx_f0, gx_f1⟩ := cz2_ gx_B.out; replace gr_B := Aside0.mk (blk_below gr_B.out hb); clear gr_0 gr_f0 gr_1 gr_f1; obtain ⟨gr_0, gr_1, gr_f0, gr_f1⟩ := cz2_ gr_B.out; replace gy_B := Aside0.mk (blk_below gy_B.out hb); clear gy_0 gy_f0 gy_1 gy_f1; obtain ⟨gy_0, gy_1, gy_f0, gy_f1⟩ := cz2_ gy_B.out; replace HB := Aside0.mk (below_step HB.out hb); clear hb) | ((with_reducible refine gate_store (p := 5) rfl ?_); refine st_all (g := gr) 5 [.bool false, .slice none 0 0] ?ttz521 ?xxz521 ?uuz521 ?htz521 ?eez521 gr_B.out ?_; (case eez521 => and_intros <;> rfl); (case htz521 => kernel_rfl); intro wq520 hbox hO; replace gc_B := Aside0.mk (hO.blk NE_gc_gr.out gc_B.out); clear gc_0 gc_f0 gc_1 gc_f1 gc_2 gc_f2 gc_3 gc_f3 gc_4 gc_f4 gc_5 gc_f5 gc_6 gc_f6 gc_7 gc_f7 gc_8 gc_f8 gc_9 gc_f9 gc_10 gc_f10 gc_11 gc_f11 gc_12 gc_f12; obtain ⟨gc_0, gc_1, gc_2, gc_3, gc_4, gc_5, gc_6, gc_7, gc_8, gc_9, gc_10, gc_11, gc_12, gc_f0, gc_f1, gc_f2, gc_f3, gc_f4, gc_f5, gc_f6, gc_f7, gc_f8, gc_f9, gc_f10, gc_f11, gc_f12⟩ := cz13_ gc_B.out; replace gx_B := Aside0.mk (hO.blk NE_gx_gr.out gx_B.out); clear gx_0 gx_f0 gx_1 gx_f1; obtain ⟨gx_0, gx_1, gx_f0, gx_f1⟩ := cz2_ gx_B.out; replace gy_B := Aside0.mk (hO.blk NE_gy_gr.out gy_B.out); clear gy_0 gy_f0 gy_1 gy_f1; obtain ⟨gy_0, gy_1, gy_f0, gy_f1⟩ := cz2_ gy_B.out; clear gr_B; clear gr_0 gr_f0 gr_1 gr_f1; have gr_B := Aside0.mk hbox; obtain ⟨gr_0, gr_1, gr_f0, gr_f1⟩ := cz2_ hbox; replace HB := Aside0.mk (hO.below HB.out gr_G.out); clear hbox hO))
  refine bodyPost_ret (results_tc rfl _ _ gr 60 #[.bool false, .slice none 0 0] (0, 0) _ rfl gr_B.out Try.underlying60 rfl (by kernel_rfl)) rfl ?_
  exact ⟨rfl, HB.out⟩
set_option maxHeartbeats 8000000 in
set_option maxRecDepth 100000 in
theorem Play_ok1 (c : S30) (A5 : Option Addr) (c5 : Nat) (A6 : Option Addr) (c6 : Nat) (A10 : Option Addr) (c10 : Nat) (xh : Bool) (st : Int) (hy : Bool) (Ay : Option Addr) (cy : Nat) (ly : List Int) (Ax : Option Addr) (cx : Nat) (lx : List Int) (w : World) (g5 : RdL w A5 c5 c.f2.f3) (g6 : RdL w A6 c6 c.f2.f4) (g10 : RdL w A10 c10 c.f4) (gx : RdL w Ax cx lx) (hn : lx.length < 4611686018427387904) (b0 : 0 ≤ c.f3) (b1 : c.f3 ≤ 255) (hk : (c.f6 != -1) = true) (ha : ∀ W, Below w.heap.size w W → Calls Try.prog 46 #[.agg #[.int .u8 c.f2.f0, .int .u64 c.f2.f1, .int .u64 c.f2.f2, .slice A5 c.f2.f3.length c5, .slice A6 c.f2.f4.length c6, .bool c.f2.f5, .int .u8 c.f2.f6], .agg #[.bool xh, .slice Ax lx.length cx]] W fun e w' => e = .returned (.tuple #[.int .i64 st, .agg #[.bool hy, .slice Ay ly.length cy]]) ∧ Below W.heap.size W w') (f0 : (c.f3 == 4) = false) (f1 : (c.f3 != st) = false) (f2 : (c.f2.f0 == 1) = false) :
    Calls Try.prog 26 #[.agg #[.int .u8 c.f0, .int .u64 c.f1, .int .u8 c.f2.f0, .int .u64 c.f2.f1, .int .u64 c.f2.f2, .slice A5 c.f2.f3.length c5, .slice A6 c.f2.f4.length c6, .bool c.f2.f5, .int .u8 c.f2.f6, .int .u8 c.f3, .slice A10 c.f4.length c10, .int .i64 c.f5, .int .i64 c.f6], .agg #[.bool xh, .slice Ax lx.length cx]] w fun e w' => e = .returned (.tuple #[.bool true, .agg #[.bool hy, .slice Ay ly.length cy]]) ∧ Below w.heap.size w w' := by
  have HB := Aside0.mk (Below.refl w.heap.size w)
  have G5 := Aside0.mk g5
  clear g5
  have G6 := Aside0.mk g6
  clear g6
  have G10 := Aside0.mk g10
  clear g10
  have GX := Aside0.mk gx
  clear gx
  have HN := Aside0.mk hn
  clear hn
  have KN := Aside0.mk hk
  clear hk
  have HA := Aside0.mk ha
  clear ha
  go_enter Try.func26, Try.ntmps26
  have hu := Try.underlying60
  have hu2 := Try.underlying27
  have hu3 := Try.underlying30
  go_wp2_with (first | ((with_reducible refine gate_dst (N := 2) rfl ?_); (try (refine gate_guard (by rfl) ?_; dsimp only)); refine box_event (by rfl) (N := 2) (by rfl) (cs := #[.int .u8 c.f0, .int .u64 c.f1, .int .u8 c.f2.f0, .int .u64 c.f2.f1, .int .u64 c.f2.f2, .slice A5 c.f2.f3.length c5, .slice A6 c.f2.f4.length c6, .bool c.f2.f5, .int .u8 c.f2.f6, .int .u8 c.f3, .slice A10 c.f4.length c10, .int .i64 c.f5, .int .i64 c.f6]) (t := 30) ?hrz523 ?_; (case hrz523 => first | (go_simp; done) | (go_simp; rfl)); intro gc hg_ wq522 hbox hb; have gc_G := gG_ hg_ HB; have gc_B := Aside0.mk hbox; obtain ⟨gc_0, gc_1, gc_2, gc_3, gc_4, gc_5, gc_6, gc_7, gc_8, gc_9, gc_10, gc_11, gc_12, gc_f0, gc_f1, gc_f2, gc_f3, gc_f4, gc_f5, gc_f6, gc_f7, gc_f8, gc_f9, gc_f10, gc_f11, gc_f12⟩ := cz13_ hbox; replace HB := Aside0.mk (below_step HB.out hb); clear hbox hb hg_) | ((with_reducible refine gate_dst (N := 3) rfl ?_); (try (refine gate_guard (by rfl) ?_; dsimp only)); refine box_event (by rfl) (N := 3) (by rfl) (cs := #[.bool xh, .slice Ax lx.length cx]) (t := 60) ?hrz525 ?_; (case hrz525 => first | (go_simp; done) | (go_simp; rfl)); intro gx hg_ wq524 hbox hb; have NE_gc_gx := nE1_ hg_ gc_B; have NE_gx_gc := nE2_ hg_ gc_B; have gx_G := gG_ hg_ HB; replace gc_B := Aside0.mk (blk_below gc_B.out hb); clear gc_0 gc_f0 gc_1 gc_f1 gc_2 gc_f2 gc_3 gc_f3 gc_4 gc_f4 gc_5 gc_f5 gc_6 gc_f6 gc_7 gc_f7 gc_8 gc_f8 gc_9 gc_f9 gc_10 gc_f10 gc_11 gc_f11 gc_12 gc_f12; obtain ⟨gc_0, gc_1, gc_2, gc_3, gc_4, gc_5, gc_6, gc_7, gc_8, gc_9, gc_10, gc_11, gc_12, gc_f0, gc_f1, gc_f2, gc_f3, gc_f4, gc_f5, gc_f6, gc_f7, gc_f8, gc_f9, gc_f10, gc_f11, gc_f12⟩ := cz13_ gc_B.out; have gx_B := Aside0.mk hbox; obtain ⟨gx_0, gx_1, gx_f0, gx_f1⟩ := cz2_ hbox; replace HB := Aside0.mk (below_step HB.out hb); clear hbox hb hg_) | ((with_reducible refine gate_dst (N := 5) rfl ?_); (try (refine gate_guard (by rfl) ?_; dsimp only)); refine box_event (by rfl) (N := 5) (by rfl) (cs := #[.bool false, .slice none 0 0]) (t := 60) ?hrz527 ?_; (case hrz527 => first | (go_simp; done) | (go_simp; rfl)); intro gr hg_ wq526 hbox hb; have NE_gc_gr := nE1_ hg_ gc_B; have NE_gr_gc := nE2_ hg_ gc_B; have NE_gx_gr := nE1_ hg_ gx_B; have NE_gr_gx := nE2_ hg_ gx_B; have gr_G := gG_ hg_ HB; replace gc_B := Aside0.mk (blk_below gc_B.out hb); clear gc_0 gc_f0 gc_1 gc_f1 gc_2 gc_f2 gc_3 gc_f3 gc_4 gc_f4 gc_5 gc_f5 gc_6 gc_f6 gc_7 gc_f7 gc_8 gc_f8 gc_9 gc_f9 gc_10 gc_f10 gc_11 gc_f11 gc_12 gc_f12; obtain ⟨gc_0, gc_1, gc_2, gc_3, gc_4, gc_5, gc_6, gc_7, gc_8, gc_9, gc_10, gc_11, gc_12, gc_f0, gc_f1, gc_f2, gc_f3, gc_f4, gc_f5, gc_f6, gc_f7, gc_f8, gc_f9, gc_f10, gc_f11, gc_f12⟩ := cz13_ gc_B.out; replace gx_B := Aside0.mk (blk_below gx_B.out hb); clear gx_0 gx_f0 gx_1 gx_f1; obtain ⟨gx_0, gx_1, gx_f0, gx_f1⟩ := cz2_ gx_B.out; have gr_B := Aside0.mk hbox; obtain ⟨gr_0, gr_1, gr_f0, gr_f1⟩ := cz2_ hbox; replace HB := Aside0.mk (below_step HB.out hb); clear hbox hb hg_) | ((with_reducible refine gate_dst (N := 7) rfl ?_); (try (refine gate_guard (by rfl) ?_; dsimp only)); refine box_event (by rfl) (N := 7) (by rfl) (cs := #[.bool false, .slice none 0 0]) (t := 60) ?hrz529 ?_; (case hrz529 => first | (go_simp; done) | (go_simp; rfl)); intro gy hg_ wq528 hbox hb; have NE_gc_gy := nE1_ hg_ gc_B; have NE_gy_gc := nE2_ hg_ gc_B; have NE_gx_gy := nE1_ hg_ gx_B; have NE_gy_gx := nE2_ hg_ gx_B; have NE_gr_gy := nE1_ hg_ gr_B; have NE_gy_gr := nE2_ hg_ gr_B; have gy_G := gG_ hg_ HB; replace gc_B := Aside0.mk (blk_below gc_B.out hb); clear gc_0 gc_f0 gc_1 gc_f1 gc_2 gc_f2 gc_3 gc_f3 gc_4 gc_f4 gc_5 gc_f5 gc_6 gc_f6 gc_7 gc_f7 gc_8 gc_f8 gc_9 gc_f9 gc_10 gc_f10 gc_11 gc_f11 gc_12 gc_f12; obtain ⟨gc_0, gc_1, gc_2, gc_3, gc_4, gc_5, gc_6, gc_7, gc_8, gc_9, gc_10, gc_11, gc_12, gc_f0, gc_f1, gc_f2, gc_f3, gc_f4, gc_f5, gc_f6, gc_f7, gc_f8, gc_f9, gc_f10, gc_f11, gc_f12⟩ := cz13_ gc_B.out; replace gx_B := Aside0.mk (blk_below gx_B.out hb); clear gx_0 gx_f0 gx_1 gx_f1; obtain ⟨gx_0, gx_1, gx_f0, gx_f1⟩ := cz2_ gx_B.out; replace gr_B := Aside0.mk (blk_below gr_B.out hb); clear gr_0 gr_f0 gr_1 gr_f1; obtain ⟨gr_0, gr_1, gr_f0, gr_f1⟩ := cz2_ gr_B.out; have gy_B := Aside0.mk hbox; obtain ⟨gy_0, gy_1, gy_f0, gy_f1⟩ := cz2_ hbox; replace HB := Aside0.mk (below_step HB.out hb); clear hbox hb hg_) | ((with_reducible refine gate_store (p := 7) rfl ?_); refine st_all (g := gy) 7 [.bool hy, .slice Ay ly.length cy] ?ttz531 ?xxz531 ?uuz531 ?htz531 ?eez531 gy_B.out ?_; (case eez531 => and_intros <;> rfl); (case htz531 => kernel_rfl); intro wq530 hbox hO; replace gc_B := Aside0.mk (hO.blk NE_gc_gy.out gc_B.out); clear gc_0 gc_f0 gc_1 gc_f1 gc_2 gc_f2 gc_3 gc_f3 gc_4 gc_f4 gc_5 gc_f5 gc_6 gc_f6 gc_7 gc_f7 gc_8 gc_f8 gc_9 gc_f9 gc_10 gc_f10 gc_11 gc_f11 gc_12 gc_f12; obtain ⟨gc_0, gc_1, gc_2, gc_3, gc_4, gc_5, gc_6, gc_7, gc_8, gc_9, gc_10, gc_11, gc_12, gc_f0, gc_f1, gc_f2, gc_f3, gc_f4, gc_f5, gc_f6, gc_f7, gc_f8, gc_f9, gc_f10, gc_f11, gc_f12⟩ := cz13_ gc_B.out; replace gx_B := Aside0.mk (hO.blk NE_gx_gy.out gx_B.out); clear gx_0 gx_f0 gx_1 gx_f1; obtain ⟨gx_0, gx_1, gx_f0, gx_f1⟩ := cz2_ gx_B.out; replace gr_B := Aside0.mk (hO.blk NE_gr_gy.out gr_B.out); clear gr_0 gr_f0 gr_1 gr_f1; obtain ⟨gr_0, gr_1, gr_f0, gr_f1⟩ := cz2_ gr_B.out; clear gy_B; clear gy_0 gy_f0 gy_1 gy_f1; have gy_B := Aside0.mk hbox; obtain ⟨gy_0, gy_1, gy_f0, gy_f1⟩ := cz2_ hbox; replace HB := Aside0.mk (hO.below HB.out gy_G.out); clear hbox hO) | (go_at_call 46; refine (HA.out _ ?s0_z533).mono ?_; (case s0_z533 => with_reducible exact HB.out); rintro e wq532 ⟨rfl, hb⟩; replace gc_B := Aside0.mk (blk_below gc_B.out hb); clear gc_0 gc_f0 gc_1 gc_f1 gc_2 gc_f2 gc_3 gc_f3 gc_4 gc_f4 gc_5 gc_f5 gc_6 gc_f6 gc_7 gc_f7 gc_8 gc_f8 gc_9 gc_f9 gc_10 gc_f10 gc_11 gc_f11 gc_12 gc_f12; obtain ⟨gc_0, gc_1, gc_2, gc_3, gc_4, gc_5, gc_6, gc_7, gc_8, gc_9, gc_10, gc_11, gc_12, gc_f0, gc_f1, gc_f2, gc_f3, gc_f4, gc_f5, gc_f6, gc_f7, gc_f8, gc_f9, gc_f10, gc_f11, gc_f12⟩ := cz13_ gc_B.out; replace gx_B := Aside0.mk (blk_below gx_B.out hb); clear gx_0 gx_f0 gx_1 gx_f1; obtain ⟨gx_0, gx_1, gx_f0, gx_f1⟩ := cz2_ gx_B.out; replace gr_B := Aside0.mk (blk_below gr_B.out hb); clear gr_0 gr_f0 gr_1 gr_f1; obtain ⟨gr_0, gr_1, gr_f0, gr_f1⟩ := cz2_ gr_B.out; replace HB := Aside0.mk (below_step HB.out hb); clear hb) | (go_at_call 45; refine (Known_calls c true A5 c5 A6 c6 A10 c10 _ ?s0_z535 ?s1_z535 ?s2_z535 ?s3_z535).mono ?_; (case s0_z535 => exact KN.out); (case s1_z535 => with_reducible exact lC G5.out HB.out); (case s2_z535 => with_reducible exact lC G6.out HB.out); (case s3_z535 => with_reducible exact lC G10.out HB.out); rintro e wq534 ⟨rfl, hb⟩; replace gc_B := Aside0.mk (blk_below gc_B.out hb); clear gc_0 gc_f0 gc_1 gc_f1 gc_2 gc_f2 gc_3 gc_f3 gc_4 gc_f4 gc_5 gc_f5 gc_6 gc_f6 gc_7 gc_f7 gc_8 gc_f8 gc_9 gc_f9 gc_10 gc_f10 gc_11 gc_f11 gc_12 gc_f12; obtain ⟨gc_0, gc_1, gc_2, gc_3, gc_4, gc_5, gc_6, gc_7, gc_8, gc_9, gc_10, gc_11, gc_12, gc_f0, gc_f1, gc_f2, gc_f3, gc_f4, gc_f5, gc_f6, gc_f7, gc_f8, gc_f9, gc_f10, gc_f11, gc_f12⟩ := cz13_ gc_B.out; replace gx_B := Aside0.mk (blk_below gx_B.out hb); clear gx_0 gx_f0 gx_1 gx_f1; obtain ⟨gx_0, gx_1, gx_f0, gx_f1⟩ := cz2_ gx_B.out; replace gr_B := Aside0.mk (blk_below gr_B.out hb); clear gr_0 gr_f0 gr_1 gr_f1; obtain ⟨gr_0, gr_1, gr_f0, gr_f1⟩ := cz2_ gr_B.out; replace gy_B := Aside0.mk (blk_below gy_B.out hb); clear gy_0 gy_f0 gy_1 gy_f1; obtain ⟨gy_0, gy_1, gy_f0, gy_f1⟩ := cz2_ gy_B.out; replace HB := Aside0.mk (below_step HB.out hb); clear hb) | (go_at_call 47; refine (same14_calls true Ax cx lx A10 c10 c.f4 _ ?s0_z537 ?s1_z537 ?s2_z537 ?s3_z537).mono ?_; (case s0_z537 => with_reducible exact lC GX.out HB.out); (case s1_z537 => with_reducible exact lC G10.out HB.out); (case s2_z537 => exact HN.out); (case s3_z537 => exact HS.out); rintro e wq536 ⟨rfl, hb⟩; replace gc_B := Aside0.mk (blk_below gc_B.out hb); clear gc_0 gc_f0 gc_1 gc_f1 gc_2 gc_f2 gc_3 gc_f3 gc_4 gc_f4 gc_5 gc_f5 gc_6 gc_f6 gc_7 gc_f7 gc_8 gc_f8 gc_9 gc_f9 gc_10 gc_f10 gc_11 gc_f11 gc_12 gc_f12; obtain ⟨gc_0, gc_1, gc_2, gc_3, gc_4, gc_5, gc_6, gc_7, gc_8, gc_9, gc_10, gc_11, gc_12, gc_f0, gc_f1, gc_f2, gc_f3, gc_f4, gc_f5, gc_f6, gc_f7, gc_f8, gc_f9, gc_f10, gc_f11, gc_f12⟩ := cz13_ gc_B.out; replace gx_B := Aside0.mk (blk_below gx_B.out hb); clear gx_0 gx_f0 gx_1 gx_f1; obtain ⟨gx_0, gx_1, gx_f0, gx_f1⟩ := cz2_ gx_B.out; replace gr_B := Aside0.mk (blk_below gr_B.out hb); clear gr_0 gr_f0 gr_1 gr_f1; obtain ⟨gr_0, gr_1, gr_f0, gr_f1⟩ := cz2_ gr_B.out; replace gy_B := Aside0.mk (blk_below gy_B.out hb); clear gy_0 gy_f0 gy_1 gy_f1; obtain ⟨gy_0, gy_1, gy_f0, gy_f1⟩ := cz2_ gy_B.out; replace HB := Aside0.mk (below_step HB.out hb); clear hb))
  refine start_w (n := 3) (S := fun w' => w'.cell? ⟨gc, 0, none⟩ = some (.int .u8 c.f0) ∧ w'.cell? ⟨gc, 1, none⟩ = some (.int .u64 c.f1) ∧ w'.cell? ⟨gc, 2, none⟩ = some (.int .u8 c.f2.f0) ∧ w'.cell? ⟨gc, 3, none⟩ = some (.int .u64 c.f2.f1) ∧ w'.cell? ⟨gc, 4, none⟩ = some (.int .u64 c.f2.f2) ∧ w'.cell? ⟨gc, 5, none⟩ = some (.slice A5 c.f2.f3.length c5) ∧ w'.cell? ⟨gc, 6, none⟩ = some (.slice A6 c.f2.f4.length c6) ∧ w'.cell? ⟨gc, 7, none⟩ = some (.bool c.f2.f5) ∧ w'.cell? ⟨gc, 8, none⟩ = some (.int .u8 c.f2.f6) ∧ w'.cell? ⟨gc, 9, none⟩ = some (.int .u8 c.f3) ∧ w'.cell? ⟨gc, 10, none⟩ = some (.slice A10 c.f4.length c10) ∧ w'.cell? ⟨gc, 11, none⟩ = some (.int .i64 c.f5) ∧ w'.cell? ⟨gc, 12, none⟩ = some (.int .i64 c.f6) ∧ w'.cell? ⟨gx, 0, none⟩ = some (.bool xh) ∧ w'.cell? ⟨gx, 1, none⟩ = some (.slice Ax lx.length cx) ∧ w'.cell? ⟨gy, 0, none⟩ = some (.bool hy) ∧ w'.cell? ⟨gy, 1, none⟩ = some (.slice Ay ly.length cy)) (ds := []) #[false, false, false] (by kernel_rfl) rfl rfl ?_
  intro wq538 hb
  replace gc_B := Aside0.mk (blk_below gc_B.out hb)
  clear gc_0 gc_f0 gc_1 gc_f1 gc_2 gc_f2 gc_3 gc_f3 gc_4 gc_f4 gc_5 gc_f5 gc_6 gc_f6 gc_7 gc_f7 gc_8 gc_f8 gc_9 gc_f9 gc_10 gc_f10 gc_11 gc_f11 gc_12 gc_f12
  obtain ⟨gc_0, gc_1, gc_2, gc_3, gc_4, gc_5, gc_6, gc_7, gc_8, gc_9, gc_10, gc_11, gc_12, gc_f0, gc_f1, gc_f2, gc_f3, gc_f4, gc_f5, gc_f6, gc_f7, gc_f8, gc_f9, gc_f10, gc_f11, gc_f12⟩ := cz13_ gc_B.out
  replace gx_B := Aside0.mk (blk_below gx_B.out hb)
  clear gx_0 gx_f0 gx_1 gx_f1
  obtain ⟨gx_0, gx_1, gx_f0, gx_f1⟩ := cz2_ gx_B.out
  replace gr_B := Aside0.mk (blk_below gr_B.out hb)
  clear gr_0 gr_f0 gr_1 gr_f1
  obtain ⟨gr_0, gr_1, gr_f0, gr_f1⟩ := cz2_ gr_B.out
  replace gy_B := Aside0.mk (blk_below gy_B.out hb)
  clear gy_0 gy_f0 gy_1 gy_f1
  obtain ⟨gy_0, gy_1, gy_f0, gy_f1⟩ := cz2_ gy_B.out
  replace HB := Aside0.mk (below_step HB.out hb)
  clear hb
  refine pure_ (i := 1) (N := (some 4)) (v := ?_) (a' := ?_) #[false, true, false] rfl rfl (by kernel_rfl) (fun _ _ _ h => h) (Or.inl ⟨by rfl, ?_⟩) ?_ ?_
  rotate_left
  · intro w'; go_simp; with_reducible rfl
  rotate_left
  · simp only [Act.put, List.setIfInBounds_toArray, List.set_cons_zero, List.set_cons_succ, i64_w, i32_w]; rfl
  refine take_ (i := 0) (N := (some 53)) (v := ?_) (a' := ?_) #[true, true, false] rfl rfl (by kernel_rfl) (fun _ _ _ h => h) (Or.inl ⟨by rfl, ?_⟩) ⟨gc_0, gc_1, gc_2, gc_3, gc_4, gc_5, gc_6, gc_7, gc_8, gc_9, gc_10, gc_11, gc_12, gx_0, gx_1, gy_0, gy_1⟩ ?_ ?_
  rotate_left
  · rintro w' ⟨s_0, s_1, s_2, s_3, s_4, s_5, s_6, s_7, s_8, s_9, s_10, s_11, s_12, s_13, s_14, s_15, s_16⟩; go_simp; with_reducible rfl
  rotate_left
  · simp only [Act.put, List.setIfInBounds_toArray, List.set_cons_zero, List.set_cons_succ, i64_w, i32_w]; rfl
  refine one_ (i := 2) (N := none) #[true, true, true] rfl rfl (by kernel_rfl) (by decide) (fun K hK => ?_)
  refine st_allS (g := gr) 5 [.bool hy, .slice Ay ly.length cy] ?ttz540 ?xxz540 ?uuz540 ?htz540 (by rfl) ?eez540 gr_B.out ?_
  (case eez540 => and_intros <;> rfl)
  (case htz540 => kernel_rfl)
  intro wq539 hbox hO
  replace gc_B := Aside0.mk (hO.blk NE_gc_gr.out gc_B.out)
  clear gc_0 gc_f0 gc_1 gc_f1 gc_2 gc_f2 gc_3 gc_f3 gc_4 gc_f4 gc_5 gc_f5 gc_6 gc_f6 gc_7 gc_f7 gc_8 gc_f8 gc_9 gc_f9 gc_10 gc_f10 gc_11 gc_f11 gc_12 gc_f12
  obtain ⟨gc_0, gc_1, gc_2, gc_3, gc_4, gc_5, gc_6, gc_7, gc_8, gc_9, gc_10, gc_11, gc_12, gc_f0, gc_f1, gc_f2, gc_f3, gc_f4, gc_f5, gc_f6, gc_f7, gc_f8, gc_f9, gc_f10, gc_f11, gc_f12⟩ := cz13_ gc_B.out
  replace gx_B := Aside0.mk (hO.blk NE_gx_gr.out gx_B.out)
  clear gx_0 gx_f0 gx_1 gx_f1
  obtain ⟨gx_0, gx_1, gx_f0, gx_f1⟩ := cz2_ gx_B.out
  replace gy_B := Aside0.mk (hO.blk NE_gy_gr.out gy_B.out)
  clear gy_0 gy_f0 gy_1 gy_f1
  obtain ⟨gy_0, gy_1, gy_f0, gy_f1⟩ := cz2_ gy_B.out
  clear gr_B
  clear gr_0 gr_f0 gr_1 gr_f1
  have gr_B := Aside0.mk hbox
  obtain ⟨gr_0, gr_1, gr_f0, gr_f1⟩ := cz2_ hbox
  replace HB := Aside0.mk (hO.below HB.out gr_G.out)
  clear hbox hO
  refine hK.out _ _ ⟨gc_0, gc_1, gc_2, gc_3, gc_4, gc_5, gc_6, gc_7, gc_8, gc_9, gc_10, gc_11, gc_12, gx_0, gx_1, gy_0, gy_1⟩ (fun _ => ?_)
  clear hK K
  refine norm_ (a' := ?_) ?_ ?_
  rotate_left
  · rfl
  refine done_ (by kernel_rfl) ?_
  go_wp2
  refine bodyPost_ret (results_tc rfl _ _ gr 60 #[.bool hy, .slice Ay ly.length cy] (0, 0) _ rfl gr_B.out Try.underlying60 rfl (by kernel_rfl)) rfl ?_
  exact ⟨rfl, HB.out⟩
set_option maxHeartbeats 8000000 in
set_option maxRecDepth 100000 in
theorem Play_ok2 (c : S30) (A5 : Option Addr) (c5 : Nat) (A6 : Option Addr) (c6 : Nat) (A10 : Option Addr) (c10 : Nat) (xh : Bool) (st : Int) (hy : Bool) (Ay : Option Addr) (cy : Nat) (ly : List Int) (Ax : Option Addr) (cx : Nat) (lx : List Int) (w : World) (g5 : RdL w A5 c5 c.f2.f3) (g6 : RdL w A6 c6 c.f2.f4) (g10 : RdL w A10 c10 c.f4) (gx : RdL w Ax cx lx) (hn : lx.length < 4611686018427387904) (b0 : 0 ≤ c.f3) (b1 : c.f3 ≤ 255) (hk : (c.f6 != -1) = true) (ha : ∀ W, Below w.heap.size w W → Calls Try.prog 46 #[.agg #[.int .u8 c.f2.f0, .int .u64 c.f2.f1, .int .u64 c.f2.f2, .slice A5 c.f2.f3.length c5, .slice A6 c.f2.f4.length c6, .bool c.f2.f5, .int .u8 c.f2.f6], .agg #[.bool xh, .slice Ax lx.length cx]] W fun e w' => e = .returned (.tuple #[.int .i64 st, .agg #[.bool hy, .slice Ay ly.length cy]]) ∧ Below W.heap.size W w') (f0 : (c.f3 == 4) = false) (f1 : (c.f3 != st) = false) (f2 : (c.f2.f0 == 1) = true) (f3 : (st == 1) = false) :
    Calls Try.prog 26 #[.agg #[.int .u8 c.f0, .int .u64 c.f1, .int .u8 c.f2.f0, .int .u64 c.f2.f1, .int .u64 c.f2.f2, .slice A5 c.f2.f3.length c5, .slice A6 c.f2.f4.length c6, .bool c.f2.f5, .int .u8 c.f2.f6, .int .u8 c.f3, .slice A10 c.f4.length c10, .int .i64 c.f5, .int .i64 c.f6], .agg #[.bool xh, .slice Ax lx.length cx]] w fun e w' => e = .returned (.tuple #[.bool true, .agg #[.bool hy, .slice Ay ly.length cy]]) ∧ Below w.heap.size w w' := by
  have HB := Aside0.mk (Below.refl w.heap.size w)
  have G5 := Aside0.mk g5
  clear g5
  have G6 := Aside0.mk g6
  clear g6
  have G10 := Aside0.mk g10
  clear g10
  have GX := Aside0.mk gx
  clear gx
  have HN := Aside0.mk hn
  clear hn
  have KN := Aside0.mk hk
  clear hk
  have HA := Aside0.mk ha
  clear ha
  go_enter Try.func26, Try.ntmps26
  have hu := Try.underlying60
  have hu2 := Try.underlying27
  have hu3 := Try.underlying30
  go_wp2_with (first | ((with_reducible refine gate_dst (N := 2) rfl ?_); (try (refine gate_guard (by rfl) ?_; dsimp only)); refine box_event (by rfl) (N := 2) (by rfl) (cs := #[.int .u8 c.f0, .int .u64 c.f1, .int .u8 c.f2.f0, .int .u64 c.f2.f1, .int .u64 c.f2.f2, .slice A5 c.f2.f3.length c5, .slice A6 c.f2.f4.length c6, .bool c.f2.f5, .int .u8 c.f2.f6, .int .u8 c.f3, .slice A10 c.f4.length c10, .int .i64 c.f5, .int .i64 c.f6]) (t := 30) ?hrz542 ?_; (case hrz542 => first | (go_simp; done) | (go_simp; rfl)); intro gc hg_ wq541 hbox hb; have gc_G := gG_ hg_ HB; have gc_B := Aside0.mk hbox; obtain ⟨gc_0, gc_1, gc_2, gc_3, gc_4, gc_5, gc_6, gc_7, gc_8, gc_9, gc_10, gc_11, gc_12, gc_f0, gc_f1, gc_f2, gc_f3, gc_f4, gc_f5, gc_f6, gc_f7, gc_f8, gc_f9, gc_f10, gc_f11, gc_f12⟩ := cz13_ hbox; replace HB := Aside0.mk (below_step HB.out hb); clear hbox hb hg_) | ((with_reducible refine gate_dst (N := 3) rfl ?_); (try (refine gate_guard (by rfl) ?_; dsimp only)); refine box_event (by rfl) (N := 3) (by rfl) (cs := #[.bool xh, .slice Ax lx.length cx]) (t := 60) ?hrz544 ?_; (case hrz544 => first | (go_simp; done) | (go_simp; rfl)); intro gx hg_ wq543 hbox hb; have NE_gc_gx := nE1_ hg_ gc_B; have NE_gx_gc := nE2_ hg_ gc_B; have gx_G := gG_ hg_ HB; replace gc_B := Aside0.mk (blk_below gc_B.out hb); clear gc_0 gc_f0 gc_1 gc_f1 gc_2 gc_f2 gc_3 gc_f3 gc_4 gc_f4 gc_5 gc_f5 gc_6 gc_f6 gc_7 gc_f7 gc_8 gc_f8 gc_9 gc_f9 gc_10 gc_f10 gc_11 gc_f11 gc_12 gc_f12; obtain ⟨gc_0, gc_1, gc_2, gc_3, gc_4, gc_5, gc_6, gc_7, gc_8, gc_9, gc_10, gc_11, gc_12, gc_f0, gc_f1, gc_f2, gc_f3, gc_f4, gc_f5, gc_f6, gc_f7, gc_f8, gc_f9, gc_f10, gc_f11, gc_f12⟩ := cz13_ gc_B.out; have gx_B := Aside0.mk hbox; obtain ⟨gx_0, gx_1, gx_f0, gx_f1⟩ := cz2_ hbox; replace HB := Aside0.mk (below_step HB.out hb); clear hbox hb hg_) | ((with_reducible refine gate_dst (N := 5) rfl ?_); (try (refine gate_guard (by rfl) ?_; dsimp only)); refine box_event (by rfl) (N := 5) (by rfl) (cs := #[.bool false, .slice none 0 0]) (t := 60) ?hrz546 ?_; (case hrz546 => first | (go_simp; done) | (go_simp; rfl)); intro gr hg_ wq545 hbox hb; have NE_gc_gr := nE1_ hg_ gc_B; have NE_gr_gc := nE2_ hg_ gc_B; have NE_gx_gr := nE1_ hg_ gx_B; have NE_gr_gx := nE2_ hg_ gx_B; have gr_G := gG_ hg_ HB; replace gc_B := Aside0.mk (blk_below gc_B.out hb); clear gc_0 gc_f0 gc_1 gc_f1 gc_2 gc_f2 gc_3 gc_f3 gc_4 gc_f4 gc_5 gc_f5 gc_6 gc_f6 gc_7 gc_f7 gc_8 gc_f8 gc_9 gc_f9 gc_10 gc_f10 gc_11 gc_f11 gc_12 gc_f12; obtain ⟨gc_0, gc_1, gc_2, gc_3, gc_4, gc_5, gc_6, gc_7, gc_8, gc_9, gc_10, gc_11, gc_12, gc_f0, gc_f1, gc_f2, gc_f3, gc_f4, gc_f5, gc_f6, gc_f7, gc_f8, gc_f9, gc_f10, gc_f11, gc_f12⟩ := cz13_ gc_B.out; replace gx_B := Aside0.mk (blk_below gx_B.out hb); clear gx_0 gx_f0 gx_1 gx_f1; obtain ⟨gx_0, gx_1, gx_f0, gx_f1⟩ := cz2_ gx_B.out; have gr_B := Aside0.mk hbox; obtain ⟨gr_0, gr_1, gr_f0, gr_f1⟩ := cz2_ hbox; replace HB := Aside0.mk (below_step HB.out hb); clear hbox hb hg_) | ((with_reducible refine gate_dst (N := 7) rfl ?_); (try (refine gate_guard (by rfl) ?_; dsimp only)); refine box_event (by rfl) (N := 7) (by rfl) (cs := #[.bool false, .slice none 0 0]) (t := 60) ?hrz548 ?_; (case hrz548 => first | (go_simp; done) | (go_simp; rfl)); intro gy hg_ wq547 hbox hb; have NE_gc_gy := nE1_ hg_ gc_B; have NE_gy_gc := nE2_ hg_ gc_B; have NE_gx_gy := nE1_ hg_ gx_B; have NE_gy_gx := nE2_ hg_ gx_B; have NE_gr_gy := nE1_ hg_ gr_B; have NE_gy_gr := nE2_ hg_ gr_B; have gy_G := gG_ hg_ HB; replace gc_B := Aside0.mk (blk_below gc_B.out hb); clear gc_0 gc_f0 gc_1 gc_f1 gc_2 gc_f2 gc_3 gc_f3 gc_4 gc_f4 gc_5 gc_f5 gc_6 gc_f6 gc_7 gc_f7 gc_8 gc_f8 gc_9 gc_f9 gc_10 gc_f10 gc_11 gc_f11 gc_12 gc_f12; obtain ⟨gc_0, gc_1, gc_2, gc_3, gc_4, gc_5, gc_6, gc_7, gc_8, gc_9, gc_10, gc_11, gc_12, gc_f0, gc_f1, gc_f2, gc_f3, gc_f4, gc_f5, gc_f6, gc_f7, gc_f8, gc_f9, gc_f10, gc_f11, gc_f12⟩ := cz13_ gc_B.out; replace gx_B := Aside0.mk (blk_below gx_B.out hb); clear gx_0 gx_f0 gx_1 gx_f1; obtain ⟨gx_0, gx_1, gx_f0, gx_f1⟩ := cz2_ gx_B.out; replace gr_B := Aside0.mk (blk_below gr_B.out hb); clear gr_0 gr_f0 gr_1 gr_f1; obtain ⟨gr_0, gr_1, gr_f0, gr_f1⟩ := cz2_ gr_B.out; have gy_B := Aside0.mk hbox; obtain ⟨gy_0, gy_1, gy_f0, gy_f1⟩ := cz2_ hbox; replace HB := Aside0.mk (below_step HB.out hb); clear hbox hb hg_) | ((with_reducible refine gate_store (p := 7) rfl ?_); refine st_all (g := gy) 7 [.bool hy, .slice Ay ly.length cy] ?ttz550 ?xxz550 ?uuz550 ?htz550 ?eez550 gy_B.out ?_; (case eez550 => and_intros <;> rfl); (case htz550 => kernel_rfl); intro wq549 hbox hO; replace gc_B := Aside0.mk (hO.blk NE_gc_gy.out gc_B.out); clear gc_0 gc_f0 gc_1 gc_f1 gc_2 gc_f2 gc_3 gc_f3 gc_4 gc_f4 gc_5 gc_f5 gc_6 gc_f6 gc_7 gc_f7 gc_8 gc_f8 gc_9 gc_f9 gc_10 gc_f10 gc_11 gc_f11 gc_12 gc_f12; obtain ⟨gc_0, gc_1, gc_2, gc_3, gc_4, gc_5, gc_6, gc_7, gc_8, gc_9, gc_10, gc_11, gc_12, gc_f0, gc_f1, gc_f2, gc_f3, gc_f4, gc_f5, gc_f6, gc_f7, gc_f8, gc_f9, gc_f10, gc_f11, gc_f12⟩ := cz13_ gc_B.out; replace gx_B := Aside0.mk (hO.blk NE_gx_gy.out gx_B.out); clear gx_0 gx_f0 gx_1 gx_f1; obtain ⟨gx_0, gx_1, gx_f0, gx_f1⟩ := cz2_ gx_B.out; replace gr_B := Aside0.mk (hO.blk NE_gr_gy.out gr_B.out); clear gr_0 gr_f0 gr_1 gr_f1; obtain ⟨gr_0, gr_1, gr_f0, gr_f1⟩ := cz2_ gr_B.out; clear gy_B; clear gy_0 gy_f0 gy_1 gy_f1; have gy_B := Aside0.mk hbox; obtain ⟨gy_0, gy_1, gy_f0, gy_f1⟩ := cz2_ hbox; replace HB := Aside0.mk (hO.below HB.out gy_G.out); clear hbox hO) | (go_at_call 46; refine (HA.out _ ?s0_z552).mono ?_; (case s0_z552 => with_reducible exact HB.out); rintro e wq551 ⟨rfl, hb⟩; replace gc_B := Aside0.mk (blk_below gc_B.out hb); clear gc_0 gc_f0 gc_1 gc_f1 gc_2 gc_f2 gc_3 gc_f3 gc_4 gc_f4 gc_5 gc_f5 gc_6 gc_f6 gc_7 gc_f7 gc_8 gc_f8 gc_9 gc_f9 gc_10 gc_f10 gc_11 gc_f11 gc_12 gc_f12; obtain ⟨gc_0, gc_1, gc_2, gc_3, gc_4, gc_5, gc_6, gc_7, gc_8, gc_9, gc_10, gc_11, gc_12, gc_f0, gc_f1, gc_f2, gc_f3, gc_f4, gc_f5, gc_f6, gc_f7, gc_f8, gc_f9, gc_f10, gc_f11, gc_f12⟩ := cz13_ gc_B.out; replace gx_B := Aside0.mk (blk_below gx_B.out hb); clear gx_0 gx_f0 gx_1 gx_f1; obtain ⟨gx_0, gx_1, gx_f0, gx_f1⟩ := cz2_ gx_B.out; replace gr_B := Aside0.mk (blk_below gr_B.out hb); clear gr_0 gr_f0 gr_1 gr_f1; obtain ⟨gr_0, gr_1, gr_f0, gr_f1⟩ := cz2_ gr_B.out; replace HB := Aside0.mk (below_step HB.out hb); clear hb) | (go_at_call 45; refine (Known_calls c true A5 c5 A6 c6 A10 c10 _ ?s0_z554 ?s1_z554 ?s2_z554 ?s3_z554).mono ?_; (case s0_z554 => exact KN.out); (case s1_z554 => with_reducible exact lC G5.out HB.out); (case s2_z554 => with_reducible exact lC G6.out HB.out); (case s3_z554 => with_reducible exact lC G10.out HB.out); rintro e wq553 ⟨rfl, hb⟩; replace gc_B := Aside0.mk (blk_below gc_B.out hb); clear gc_0 gc_f0 gc_1 gc_f1 gc_2 gc_f2 gc_3 gc_f3 gc_4 gc_f4 gc_5 gc_f5 gc_6 gc_f6 gc_7 gc_f7 gc_8 gc_f8 gc_9 gc_f9 gc_10 gc_f10 gc_11 gc_f11 gc_12 gc_f12; obtain ⟨gc_0, gc_1, gc_2, gc_3, gc_4, gc_5, gc_6, gc_7, gc_8, gc_9, gc_10, gc_11, gc_12, gc_f0, gc_f1, gc_f2, gc_f3, gc_f4, gc_f5, gc_f6, gc_f7, gc_f8, gc_f9, gc_f10, gc_f11, gc_f12⟩ := cz13_ gc_B.out; replace gx_B := Aside0.mk (blk_below gx_B.out hb); clear gx_0 gx_f0 gx_1 gx_f1; obtain ⟨gx_0, gx_1, gx_f0, gx_f1⟩ := cz2_ gx_B.out; replace gr_B := Aside0.mk (blk_below gr_B.out hb); clear gr_0 gr_f0 gr_1 gr_f1; obtain ⟨gr_0, gr_1, gr_f0, gr_f1⟩ := cz2_ gr_B.out; replace gy_B := Aside0.mk (blk_below gy_B.out hb); clear gy_0 gy_f0 gy_1 gy_f1; obtain ⟨gy_0, gy_1, gy_f0, gy_f1⟩ := cz2_ gy_B.out; replace HB := Aside0.mk (below_step HB.out hb); clear hb) | (go_at_call 47; refine (same14_calls true Ax cx lx A10 c10 c.f4 _ ?s0_z556 ?s1_z556 ?s2_z556 ?s3_z556).mono ?_; (case s0_z556 => with_reducible exact lC GX.out HB.out); (case s1_z556 => with_reducible exact lC G10.out HB.out); (case s2_z556 => exact HN.out); (case s3_z556 => exact HS.out); rintro e wq555 ⟨rfl, hb⟩; replace gc_B := Aside0.mk (blk_below gc_B.out hb); clear gc_0 gc_f0 gc_1 gc_f1 gc_2 gc_f2 gc_3 gc_f3 gc_4 gc_f4 gc_5 gc_f5 gc_6 gc_f6 gc_7 gc_f7 gc_8 gc_f8 gc_9 gc_f9 gc_10 gc_f10 gc_11 gc_f11 gc_12 gc_f12; obtain ⟨gc_0, gc_1, gc_2, gc_3, gc_4, gc_5, gc_6, gc_7, gc_8, gc_9, gc_10, gc_11, gc_12, gc_f0, gc_f1, gc_f2, gc_f3, gc_f4, gc_f5, gc_f6, gc_f7, gc_f8, gc_f9, gc_f10, gc_f11, gc_f12⟩ := cz13_ gc_B.out; replace gx_B := Aside0.mk (blk_below gx_B.out hb); clear gx_0 gx_f0 gx_1 gx_f1; obtain ⟨gx_0, gx_1, gx_f0, gx_f1⟩ := cz2_ gx_B.out; replace gr_B := Aside0.mk (blk_below gr_B.out hb); clear gr_0 gr_f0 gr_1 gr_f1; obtain ⟨gr_0, gr_1, gr_f0, gr_f1⟩ := cz2_ gr_B.out; replace gy_B := Aside0.mk (blk_below gy_B.out hb); clear gy_0 gy_f0 gy_1 gy_f1; obtain ⟨gy_0, gy_1, gy_f0, gy_f1⟩ := cz2_ gy_B.out; replace HB := Aside0.mk (below_step HB.out hb); clear hb))
  refine start_w (n := 3) (S := fun w' => w'.cell? ⟨gc, 0, none⟩ = some (.int .u8 c.f0) ∧ w'.cell? ⟨gc, 1, none⟩ = some (.int .u64 c.f1) ∧ w'.cell? ⟨gc, 2, none⟩ = some (.int .u8 c.f2.f0) ∧ w'.cell? ⟨gc, 3, none⟩ = some (.int .u64 c.f2.f1) ∧ w'.cell? ⟨gc, 4, none⟩ = some (.int .u64 c.f2.f2) ∧ w'.cell? ⟨gc, 5, none⟩ = some (.slice A5 c.f2.f3.length c5) ∧ w'.cell? ⟨gc, 6, none⟩ = some (.slice A6 c.f2.f4.length c6) ∧ w'.cell? ⟨gc, 7, none⟩ = some (.bool c.f2.f5) ∧ w'.cell? ⟨gc, 8, none⟩ = some (.int .u8 c.f2.f6) ∧ w'.cell? ⟨gc, 9, none⟩ = some (.int .u8 c.f3) ∧ w'.cell? ⟨gc, 10, none⟩ = some (.slice A10 c.f4.length c10) ∧ w'.cell? ⟨gc, 11, none⟩ = some (.int .i64 c.f5) ∧ w'.cell? ⟨gc, 12, none⟩ = some (.int .i64 c.f6) ∧ w'.cell? ⟨gx, 0, none⟩ = some (.bool xh) ∧ w'.cell? ⟨gx, 1, none⟩ = some (.slice Ax lx.length cx) ∧ w'.cell? ⟨gy, 0, none⟩ = some (.bool hy) ∧ w'.cell? ⟨gy, 1, none⟩ = some (.slice Ay ly.length cy)) (ds := []) #[false, false, false] (by kernel_rfl) rfl rfl ?_
  intro wq557 hb
  replace gc_B := Aside0.mk (blk_below gc_B.out hb)
  clear gc_0 gc_f0 gc_1 gc_f1 gc_2 gc_f2 gc_3 gc_f3 gc_4 gc_f4 gc_5 gc_f5 gc_6 gc_f6 gc_7 gc_f7 gc_8 gc_f8 gc_9 gc_f9 gc_10 gc_f10 gc_11 gc_f11 gc_12 gc_f12
  obtain ⟨gc_0, gc_1, gc_2, gc_3, gc_4, gc_5, gc_6, gc_7, gc_8, gc_9, gc_10, gc_11, gc_12, gc_f0, gc_f1, gc_f2, gc_f3, gc_f4, gc_f5, gc_f6, gc_f7, gc_f8, gc_f9, gc_f10, gc_f11, gc_f12⟩ := cz13_ gc_B.out
  replace gx_B := Aside0.mk (blk_below gx_B.out hb)
  clear gx_0 gx_f0 gx_1 gx_f1
  obtain ⟨gx_0, gx_1, gx_f0, gx_f1⟩ := cz2_ gx_B.out
  replace gr_B := Aside0.mk (blk_below gr_B.out hb)
  clear gr_0 gr_f0 gr_1 gr_f1
  obtain ⟨gr_0, gr_1, gr_f0, gr_f1⟩ := cz2_ gr_B.out
  replace gy_B := Aside0.mk (blk_below gy_B.out hb)
  clear gy_0 gy_f0 gy_1 gy_f1
  obtain ⟨gy_0, gy_1, gy_f0, gy_f1⟩ := cz2_ gy_B.out
  replace HB := Aside0.mk (below_step HB.out hb)
  clear hb
  refine pure_ (i := 1) (N := (some 4)) (v := ?_) (a' := ?_) #[false, true, false] rfl rfl (by kernel_rfl) (fun _ _ _ h => h) (Or.inl ⟨by rfl, ?_⟩) ?_ ?_
  rotate_left
  · intro w'; go_simp; with_reducible rfl
  rotate_left
  · simp only [Act.put, List.setIfInBounds_toArray, List.set_cons_zero, List.set_cons_succ, i64_w, i32_w]; rfl
  refine take_ (i := 0) (N := (some 53)) (v := ?_) (a' := ?_) #[true, true, false] rfl rfl (by kernel_rfl) (fun _ _ _ h => h) (Or.inl ⟨by rfl, ?_⟩) ⟨gc_0, gc_1, gc_2, gc_3, gc_4, gc_5, gc_6, gc_7, gc_8, gc_9, gc_10, gc_11, gc_12, gx_0, gx_1, gy_0, gy_1⟩ ?_ ?_
  rotate_left
  · rintro w' ⟨s_0, s_1, s_2, s_3, s_4, s_5, s_6, s_7, s_8, s_9, s_10, s_11, s_12, s_13, s_14, s_15, s_16⟩; go_simp; with_reducible rfl
  rotate_left
  · simp only [Act.put, List.setIfInBounds_toArray, List.set_cons_zero, List.set_cons_succ, i64_w, i32_w]; rfl
  refine one_ (i := 2) (N := none) #[true, true, true] rfl rfl (by kernel_rfl) (by decide) (fun K hK => ?_)
  refine st_allS (g := gr) 5 [.bool hy, .slice Ay ly.length cy] ?ttz559 ?xxz559 ?uuz559 ?htz559 (by rfl) ?eez559 gr_B.out ?_
  (case eez559 => and_intros <;> rfl)
  (case htz559 => kernel_rfl)
  intro wq558 hbox hO
  replace gc_B := Aside0.mk (hO.blk NE_gc_gr.out gc_B.out)
  clear gc_0 gc_f0 gc_1 gc_f1 gc_2 gc_f2 gc_3 gc_f3 gc_4 gc_f4 gc_5 gc_f5 gc_6 gc_f6 gc_7 gc_f7 gc_8 gc_f8 gc_9 gc_f9 gc_10 gc_f10 gc_11 gc_f11 gc_12 gc_f12
  obtain ⟨gc_0, gc_1, gc_2, gc_3, gc_4, gc_5, gc_6, gc_7, gc_8, gc_9, gc_10, gc_11, gc_12, gc_f0, gc_f1, gc_f2, gc_f3, gc_f4, gc_f5, gc_f6, gc_f7, gc_f8, gc_f9, gc_f10, gc_f11, gc_f12⟩ := cz13_ gc_B.out
  replace gx_B := Aside0.mk (hO.blk NE_gx_gr.out gx_B.out)
  clear gx_0 gx_f0 gx_1 gx_f1
  obtain ⟨gx_0, gx_1, gx_f0, gx_f1⟩ := cz2_ gx_B.out
  replace gy_B := Aside0.mk (hO.blk NE_gy_gr.out gy_B.out)
  clear gy_0 gy_f0 gy_1 gy_f1
  obtain ⟨gy_0, gy_1, gy_f0, gy_f1⟩ := cz2_ gy_B.out
  clear gr_B
  clear gr_0 gr_f0 gr_1 gr_f1
  have gr_B := Aside0.mk hbox
  obtain ⟨gr_0, gr_1, gr_f0, gr_f1⟩ := cz2_ hbox
  replace HB := Aside0.mk (hO.below HB.out gr_G.out)
  clear hbox hO
  refine hK.out _ _ ⟨gc_0, gc_1, gc_2, gc_3, gc_4, gc_5, gc_6, gc_7, gc_8, gc_9, gc_10, gc_11, gc_12, gx_0, gx_1, gy_0, gy_1⟩ (fun _ => ?_)
  clear hK K
  refine norm_ (a' := ?_) ?_ ?_
  rotate_left
  · rfl
  refine done_ (by kernel_rfl) ?_
  go_wp2
  refine bodyPost_ret (results_tc rfl _ _ gr 60 #[.bool hy, .slice Ay ly.length cy] (0, 0) _ rfl gr_B.out Try.underlying60 rfl (by kernel_rfl)) rfl ?_
  exact ⟨rfl, HB.out⟩
set_option maxHeartbeats 8000000 in
set_option maxRecDepth 100000 in
theorem Play_get (c : S30) (A5 : Option Addr) (c5 : Nat) (A6 : Option Addr) (c6 : Nat) (A10 : Option Addr) (c10 : Nat) (xh : Bool) (hy : Bool) (Ay : Option Addr) (cy : Nat) (ly : List Int) (Ax : Option Addr) (cx : Nat) (lx : List Int) (w : World) (g5 : RdL w A5 c5 c.f2.f3) (g6 : RdL w A6 c6 c.f2.f4) (g10 : RdL w A10 c10 c.f4) (gx : RdL w Ax cx lx) (hn : lx.length < 4611686018427387904) (b0 : 0 ≤ c.f3) (b1 : c.f3 ≤ 255) (hk : (c.f6 != -1) = true) (ha : ∀ W, Below w.heap.size w W → Calls Try.prog 46 #[.agg #[.int .u8 c.f2.f0, .int .u64 c.f2.f1, .int .u64 c.f2.f2, .slice A5 c.f2.f3.length c5, .slice A6 c.f2.f4.length c6, .bool c.f2.f5, .int .u8 c.f2.f6], .agg #[.bool xh, .slice Ax lx.length cx]] W fun e w' => e = .returned (.tuple #[.int .i64 1, .agg #[.bool hy, .slice Ay ly.length cy]]) ∧ Below W.heap.size W w') (f0 : (c.f3 == 4) = false) (f1 : (c.f3 != 1) = false) (f2 : (c.f2.f0 == 1) = true) (hs : decide (lx = c.f4) = true) :
    Calls Try.prog 26 #[.agg #[.int .u8 c.f0, .int .u64 c.f1, .int .u8 c.f2.f0, .int .u64 c.f2.f1, .int .u64 c.f2.f2, .slice A5 c.f2.f3.length c5, .slice A6 c.f2.f4.length c6, .bool c.f2.f5, .int .u8 c.f2.f6, .int .u8 c.f3, .slice A10 c.f4.length c10, .int .i64 c.f5, .int .i64 c.f6], .agg #[.bool xh, .slice Ax lx.length cx]] w fun e w' => e = .returned (.tuple #[.bool true, .agg #[.bool hy, .slice Ay ly.length cy]]) ∧ Below w.heap.size w w' := by
  have HB := Aside0.mk (Below.refl w.heap.size w)
  have G5 := Aside0.mk g5
  clear g5
  have G6 := Aside0.mk g6
  clear g6
  have G10 := Aside0.mk g10
  clear g10
  have GX := Aside0.mk gx
  clear gx
  have HN := Aside0.mk hn
  clear hn
  have KN := Aside0.mk hk
  clear hk
  have HA := Aside0.mk ha
  clear ha
  have HS := Aside0.mk hs
  clear hs
  go_enter Try.func26, Try.ntmps26
  have hu := Try.underlying60
  have hu2 := Try.underlying27
  have hu3 := Try.underlying30
  go_wp2_with (first | ((with_reducible refine gate_dst (N := 2) rfl ?_); (try (refine gate_guard (by rfl) ?_; dsimp only)); refine box_event (by rfl) (N := 2) (by rfl) (cs := #[.int .u8 c.f0, .int .u64 c.f1, .int .u8 c.f2.f0, .int .u64 c.f2.f1, .int .u64 c.f2.f2, .slice A5 c.f2.f3.length c5, .slice A6 c.f2.f4.length c6, .bool c.f2.f5, .int .u8 c.f2.f6, .int .u8 c.f3, .slice A10 c.f4.length c10, .int .i64 c.f5, .int .i64 c.f6]) (t := 30) ?hrz561 ?_; (case hrz561 => first | (go_simp; done) | (go_simp; rfl)); intro gc hg_ wq560 hbox hb; have gc_G := gG_ hg_ HB; have gc_B := Aside0.mk hbox; obtain ⟨gc_0, gc_1, gc_2, gc_3, gc_4, gc_5, gc_6, gc_7, gc_8, gc_9, gc_10, gc_11, gc_12, gc_f0, gc_f1, gc_f2, gc_f3, gc_f4, gc_f5, gc_f6, gc_f7, gc_f8, gc_f9, gc_f10, gc_f11, gc_f12⟩ := cz13_ hbox; replace HB := Aside0.mk (below_step HB.out hb); clear hbox hb hg_) | ((with_reducible refine gate_dst (N := 3) rfl ?_); (try (refine gate_guard (by rfl) ?_; dsimp only)); refine box_event (by rfl) (N := 3) (by rfl) (cs := #[.bool xh, .slice Ax lx.length cx]) (t := 60) ?hrz563 ?_; (case hrz563 => first | (go_simp; done) | (go_simp; rfl)); intro gx hg_ wq562 hbox hb; have NE_gc_gx := nE1_ hg_ gc_B; have NE_gx_gc := nE2_ hg_ gc_B; have gx_G := gG_ hg_ HB; replace gc_B := Aside0.mk (blk_below gc_B.out hb); clear gc_0 gc_f0 gc_1 gc_f1 gc_2 gc_f2 gc_3 gc_f3 gc_4 gc_f4 gc_5 gc_f5 gc_6 gc_f6 gc_7 gc_f7 gc_8 gc_f8 gc_9 gc_f9 gc_10 gc_f10 gc_11 gc_f11 gc_12 gc_f12; obtain ⟨gc_0, gc_1, gc_2, gc_3, gc_4, gc_5, gc_6, gc_7, gc_8, gc_9, gc_10, gc_11, gc_12, gc_f0, gc_f1, gc_f2, gc_f3, gc_f4, gc_f5, gc_f6, gc_f7, gc_f8, gc_f9, gc_f10, gc_f11, gc_f12⟩ := cz13_ gc_B.out; have gx_B := Aside0.mk hbox; obtain ⟨gx_0, gx_1, gx_f0, gx_f1⟩ := cz2_ hbox; replace HB := Aside0.mk (below_step HB.out hb); clear hbox hb hg_) | ((with_reducible refine gate_dst (N := 5) rfl ?_); (try (refine gate_guard (by rfl) ?_; dsimp only)); refine box_event (by rfl) (N := 5) (by rfl) (cs := #[.bool false, .slice none 0 0]) (t := 60) ?hrz565 ?_; (case hrz565 => first | (go_simp; done) | (go_simp; rfl)); intro gr hg_ wq564 hbox hb; have NE_gc_gr := nE1_ hg_ gc_B; have NE_gr_gc := nE2_ hg_ gc_B; have NE_gx_gr := nE1_ hg_ gx_B; have NE_gr_gx := nE2_ hg_ gx_B; have gr_G := gG_ hg_ HB; replace gc_B := Aside0.mk (blk_below gc_B.out hb); clear gc_0 gc_f0 gc_1 gc_f1 gc_2 gc_f2 gc_3 gc_f3 gc_4 gc_f4 gc_5 gc_f5 gc_6 gc_f6 gc_7 gc_f7 gc_8 gc_f8 gc_9 gc_f9 gc_10 gc_f10 gc_11 gc_f11 gc_12 gc_f12; obtain ⟨gc_0, gc_1, gc_2, gc_3, gc_4, gc_5, gc_6, gc_7, gc_8, gc_9, gc_10, gc_11, gc_12, gc_f0, gc_f1, gc_f2, gc_f3, gc_f4, gc_f5, gc_f6, gc_f7, gc_f8, gc_f9, gc_f10, gc_f11, gc_f12⟩ := cz13_ gc_B.out; replace gx_B := Aside0.mk (blk_below gx_B.out hb); clear gx_0 gx_f0 gx_1 gx_f1; obtain ⟨gx_0, gx_1, gx_f0, gx_f1⟩ := cz2_ gx_B.out; have gr_B := Aside0.mk hbox; obtain ⟨gr_0, gr_1, gr_f0, gr_f1⟩ := cz2_ hbox; replace HB := Aside0.mk (below_step HB.out hb); clear hbox hb hg_) | ((with_reducible refine gate_dst (N := 7) rfl ?_); (try (refine gate_guard (by rfl) ?_; dsimp only)); refine box_event (by rfl) (N := 7) (by rfl) (cs := #[.bool false, .slice none 0 0]) (t := 60) ?hrz567 ?_; (case hrz567 => first | (go_simp; done) | (go_simp; rfl)); intro gy hg_ wq566 hbox hb; have NE_gc_gy := nE1_ hg_ gc_B; have NE_gy_gc := nE2_ hg_ gc_B; have NE_gx_gy := nE1_ hg_ gx_B; have NE_gy_gx := nE2_ hg_ gx_B; have NE_gr_gy := nE1_ hg_ gr_B; have NE_gy_gr := nE2_ hg_ gr_B; have gy_G := gG_ hg_ HB; replace gc_B := Aside0.mk (blk_below gc_B.out hb); clear gc_0 gc_f0 gc_1 gc_f1 gc_2 gc_f2 gc_3 gc_f3 gc_4 gc_f4 gc_5 gc_f5 gc_6 gc_f6 gc_7 gc_f7 gc_8 gc_f8 gc_9 gc_f9 gc_10 gc_f10 gc_11 gc_f11 gc_12 gc_f12; obtain ⟨gc_0, gc_1, gc_2, gc_3, gc_4, gc_5, gc_6, gc_7, gc_8, gc_9, gc_10, gc_11, gc_12, gc_f0, gc_f1, gc_f2, gc_f3, gc_f4, gc_f5, gc_f6, gc_f7, gc_f8, gc_f9, gc_f10, gc_f11, gc_f12⟩ := cz13_ gc_B.out; replace gx_B := Aside0.mk (blk_below gx_B.out hb); clear gx_0 gx_f0 gx_1 gx_f1; obtain ⟨gx_0, gx_1, gx_f0, gx_f1⟩ := cz2_ gx_B.out; replace gr_B := Aside0.mk (blk_below gr_B.out hb); clear gr_0 gr_f0 gr_1 gr_f1; obtain ⟨gr_0, gr_1, gr_f0, gr_f1⟩ := cz2_ gr_B.out; have gy_B := Aside0.mk hbox; obtain ⟨gy_0, gy_1, gy_f0, gy_f1⟩ := cz2_ hbox; replace HB := Aside0.mk (below_step HB.out hb); clear hbox hb hg_) | ((with_reducible refine gate_store (p := 7) rfl ?_); refine st_all (g := gy) 7 [.bool hy, .slice Ay ly.length cy] ?ttz569 ?xxz569 ?uuz569 ?htz569 ?eez569 gy_B.out ?_; (case eez569 => and_intros <;> rfl); (case htz569 => kernel_rfl); intro wq568 hbox hO; replace gc_B := Aside0.mk (hO.blk NE_gc_gy.out gc_B.out); clear gc_0 gc_f0 gc_1 gc_f1 gc_2 gc_f2 gc_3 gc_f3 gc_4 gc_f4 gc_5 gc_f5 gc_6 gc_f6 gc_7 gc_f7 gc_8 gc_f8 gc_9 gc_f9 gc_10 gc_f10 gc_11 gc_f11 gc_12 gc_f12; obtain ⟨gc_0, gc_1, gc_2, gc_3, gc_4, gc_5, gc_6, gc_7, gc_8, gc_9, gc_10, gc_11, gc_12, gc_f0, gc_f1, gc_f2, gc_f3, gc_f4, gc_f5, gc_f6, gc_f7, gc_f8, gc_f9, gc_f10, gc_f11, gc_f12⟩ := cz13_ gc_B.out; replace gx_B := Aside0.mk (hO.blk NE_gx_gy.out gx_B.out); clear gx_0 gx_f0 gx_1 gx_f1; obtain ⟨gx_0, gx_1, gx_f0, gx_f1⟩ := cz2_ gx_B.out; replace gr_B := Aside0.mk (hO.blk NE_gr_gy.out gr_B.out); clear gr_0 gr_f0 gr_1 gr_f1; obtain ⟨gr_0, gr_1, gr_f0, gr_f1⟩ := cz2_ gr_B.out; clear gy_B; clear gy_0 gy_f0 gy_1 gy_f1; have gy_B := Aside0.mk hbox; obtain ⟨gy_0, gy_1, gy_f0, gy_f1⟩ := cz2_ hbox; replace HB := Aside0.mk (hO.below HB.out gy_G.out); clear hbox hO) | (go_at_call 46; refine (HA.out _ ?s0_z571).mono ?_; (case s0_z571 => with_reducible exact HB.out); rintro e wq570 ⟨rfl, hb⟩; replace gc_B := Aside0.mk (blk_below gc_B.out hb); clear gc_0 gc_f0 gc_1 gc_f1 gc_2 gc_f2 gc_3 gc_f3 gc_4 gc_f4 gc_5 gc_f5 gc_6 gc_f6 gc_7 gc_f7 gc_8 gc_f8 gc_9 gc_f9 gc_10 gc_f10 gc_11 gc_f11 gc_12 gc_f12; obtain ⟨gc_0, gc_1, gc_2, gc_3, gc_4, gc_5, gc_6, gc_7, gc_8, gc_9, gc_10, gc_11, gc_12, gc_f0, gc_f1, gc_f2, gc_f3, gc_f4, gc_f5, gc_f6, gc_f7, gc_f8, gc_f9, gc_f10, gc_f11, gc_f12⟩ := cz13_ gc_B.out; replace gx_B := Aside0.mk (blk_below gx_B.out hb); clear gx_0 gx_f0 gx_1 gx_f1; obtain ⟨gx_0, gx_1, gx_f0, gx_f1⟩ := cz2_ gx_B.out; replace gr_B := Aside0.mk (blk_below gr_B.out hb); clear gr_0 gr_f0 gr_1 gr_f1; obtain ⟨gr_0, gr_1, gr_f0, gr_f1⟩ := cz2_ gr_B.out; replace HB := Aside0.mk (below_step HB.out hb); clear hb) | (go_at_call 45; refine (Known_calls c true A5 c5 A6 c6 A10 c10 _ ?s0_z573 ?s1_z573 ?s2_z573 ?s3_z573).mono ?_; (case s0_z573 => exact KN.out); (case s1_z573 => with_reducible exact lC G5.out HB.out); (case s2_z573 => with_reducible exact lC G6.out HB.out); (case s3_z573 => with_reducible exact lC G10.out HB.out); rintro e wq572 ⟨rfl, hb⟩; replace gc_B := Aside0.mk (blk_below gc_B.out hb); clear gc_0 gc_f0 gc_1 gc_f1 gc_2 gc_f2 gc_3 gc_f3 gc_4 gc_f4 gc_5 gc_f5 gc_6 gc_f6 gc_7 gc_f7 gc_8 gc_f8 gc_9 gc_f9 gc_10 gc_f10 gc_11 gc_f11 gc_12 gc_f12; obtain ⟨gc_0, gc_1, gc_2, gc_3, gc_4, gc_5, gc_6, gc_7, gc_8, gc_9, gc_10, gc_11, gc_12, gc_f0, gc_f1, gc_f2, gc_f3, gc_f4, gc_f5, gc_f6, gc_f7, gc_f8, gc_f9, gc_f10, gc_f11, gc_f12⟩ := cz13_ gc_B.out; replace gx_B := Aside0.mk (blk_below gx_B.out hb); clear gx_0 gx_f0 gx_1 gx_f1; obtain ⟨gx_0, gx_1, gx_f0, gx_f1⟩ := cz2_ gx_B.out; replace gr_B := Aside0.mk (blk_below gr_B.out hb); clear gr_0 gr_f0 gr_1 gr_f1; obtain ⟨gr_0, gr_1, gr_f0, gr_f1⟩ := cz2_ gr_B.out; replace gy_B := Aside0.mk (blk_below gy_B.out hb); clear gy_0 gy_f0 gy_1 gy_f1; obtain ⟨gy_0, gy_1, gy_f0, gy_f1⟩ := cz2_ gy_B.out; replace HB := Aside0.mk (below_step HB.out hb); clear hb) | (go_at_call 47; refine (same14_calls true Ax cx lx A10 c10 c.f4 _ ?s0_z575 ?s1_z575 ?s2_z575 ?s3_z575).mono ?_; (case s0_z575 => with_reducible exact lC GX.out HB.out); (case s1_z575 => with_reducible exact lC G10.out HB.out); (case s2_z575 => exact HN.out); (case s3_z575 => exact HS.out); rintro e wq574 ⟨rfl, hb⟩; replace gc_B := Aside0.mk (blk_below gc_B.out hb); clear gc_0 gc_f0 gc_1 gc_f1 gc_2 gc_f2 gc_3 gc_f3 gc_4 gc_f4 gc_5 gc_f5 gc_6 gc_f6 gc_7 gc_f7 gc_8 gc_f8 gc_9 gc_f9 gc_10 gc_f10 gc_11 gc_f11 gc_12 gc_f12; obtain ⟨gc_0, gc_1, gc_2, gc_3, gc_4, gc_5, gc_6, gc_7, gc_8, gc_9, gc_10, gc_11, gc_12, gc_f0, gc_f1, gc_f2, gc_f3, gc_f4, gc_f5, gc_f6, gc_f7, gc_f8, gc_f9, gc_f10, gc_f11, gc_f12⟩ := cz13_ gc_B.out; replace gx_B := Aside0.mk (blk_below gx_B.out hb); clear gx_0 gx_f0 gx_1 gx_f1; obtain ⟨gx_0, gx_1, gx_f0, gx_f1⟩ := cz2_ gx_B.out; replace gr_B := Aside0.mk (blk_below gr_B.out hb); clear gr_0 gr_f0 gr_1 gr_f1; obtain ⟨gr_0, gr_1, gr_f0, gr_f1⟩ := cz2_ gr_B.out; replace gy_B := Aside0.mk (blk_below gy_B.out hb); clear gy_0 gy_f0 gy_1 gy_f1; obtain ⟨gy_0, gy_1, gy_f0, gy_f1⟩ := cz2_ gy_B.out; replace HB := Aside0.mk (below_step HB.out hb); clear hb))
  refine start_w (n := 3) (S := fun w' => w'.cell? ⟨gc, 0, none⟩ = some (.int .u8 c.f0) ∧ w'.cell? ⟨gc, 1, none⟩ = some (.int .u64 c.f1) ∧ w'.cell? ⟨gc, 2, none⟩ = some (.int .u8 c.f2.f0) ∧ w'.cell? ⟨gc, 3, none⟩ = some (.int .u64 c.f2.f1) ∧ w'.cell? ⟨gc, 4, none⟩ = some (.int .u64 c.f2.f2) ∧ w'.cell? ⟨gc, 5, none⟩ = some (.slice A5 c.f2.f3.length c5) ∧ w'.cell? ⟨gc, 6, none⟩ = some (.slice A6 c.f2.f4.length c6) ∧ w'.cell? ⟨gc, 7, none⟩ = some (.bool c.f2.f5) ∧ w'.cell? ⟨gc, 8, none⟩ = some (.int .u8 c.f2.f6) ∧ w'.cell? ⟨gc, 9, none⟩ = some (.int .u8 c.f3) ∧ w'.cell? ⟨gc, 10, none⟩ = some (.slice A10 c.f4.length c10) ∧ w'.cell? ⟨gc, 11, none⟩ = some (.int .i64 c.f5) ∧ w'.cell? ⟨gc, 12, none⟩ = some (.int .i64 c.f6) ∧ w'.cell? ⟨gx, 0, none⟩ = some (.bool xh) ∧ w'.cell? ⟨gx, 1, none⟩ = some (.slice Ax lx.length cx) ∧ w'.cell? ⟨gy, 0, none⟩ = some (.bool hy) ∧ w'.cell? ⟨gy, 1, none⟩ = some (.slice Ay ly.length cy)) (ds := []) #[false, false, false] (by kernel_rfl) rfl rfl ?_
  intro wq576 hb
  replace gc_B := Aside0.mk (blk_below gc_B.out hb)
  clear gc_0 gc_f0 gc_1 gc_f1 gc_2 gc_f2 gc_3 gc_f3 gc_4 gc_f4 gc_5 gc_f5 gc_6 gc_f6 gc_7 gc_f7 gc_8 gc_f8 gc_9 gc_f9 gc_10 gc_f10 gc_11 gc_f11 gc_12 gc_f12
  obtain ⟨gc_0, gc_1, gc_2, gc_3, gc_4, gc_5, gc_6, gc_7, gc_8, gc_9, gc_10, gc_11, gc_12, gc_f0, gc_f1, gc_f2, gc_f3, gc_f4, gc_f5, gc_f6, gc_f7, gc_f8, gc_f9, gc_f10, gc_f11, gc_f12⟩ := cz13_ gc_B.out
  replace gx_B := Aside0.mk (blk_below gx_B.out hb)
  clear gx_0 gx_f0 gx_1 gx_f1
  obtain ⟨gx_0, gx_1, gx_f0, gx_f1⟩ := cz2_ gx_B.out
  replace gr_B := Aside0.mk (blk_below gr_B.out hb)
  clear gr_0 gr_f0 gr_1 gr_f1
  obtain ⟨gr_0, gr_1, gr_f0, gr_f1⟩ := cz2_ gr_B.out
  replace gy_B := Aside0.mk (blk_below gy_B.out hb)
  clear gy_0 gy_f0 gy_1 gy_f1
  obtain ⟨gy_0, gy_1, gy_f0, gy_f1⟩ := cz2_ gy_B.out
  replace HB := Aside0.mk (below_step HB.out hb)
  clear hb
  refine pure_ (i := 1) (N := (some 4)) (v := ?_) (a' := ?_) #[false, true, false] rfl rfl (by kernel_rfl) (fun _ _ _ h => h) (Or.inl ⟨by rfl, ?_⟩) ?_ ?_
  rotate_left
  · intro w'; go_simp; with_reducible rfl
  rotate_left
  · simp only [Act.put, List.setIfInBounds_toArray, List.set_cons_zero, List.set_cons_succ, i64_w, i32_w]; rfl
  refine take_ (i := 0) (N := (some 53)) (v := ?_) (a' := ?_) #[true, true, false] rfl rfl (by kernel_rfl) (fun _ _ _ h => h) (Or.inl ⟨by rfl, ?_⟩) ⟨gc_0, gc_1, gc_2, gc_3, gc_4, gc_5, gc_6, gc_7, gc_8, gc_9, gc_10, gc_11, gc_12, gx_0, gx_1, gy_0, gy_1⟩ ?_ ?_
  rotate_left
  · rintro w' ⟨s_0, s_1, s_2, s_3, s_4, s_5, s_6, s_7, s_8, s_9, s_10, s_11, s_12, s_13, s_14, s_15, s_16⟩; go_simp; with_reducible rfl
  rotate_left
  · simp only [Act.put, List.setIfInBounds_toArray, List.set_cons_zero, List.set_cons_succ, i64_w, i32_w]; rfl
  refine one_ (i := 2) (N := none) #[true, true, true] rfl rfl (by kernel_rfl) (by decide) (fun K hK => ?_)
  refine st_allS (g := gr) 5 [.bool hy, .slice Ay ly.length cy] ?ttz578 ?xxz578 ?uuz578 ?htz578 (by rfl) ?eez578 gr_B.out ?_
  (case eez578 => and_intros <;> rfl)
  (case htz578 => kernel_rfl)
  intro wq577 hbox hO
  replace gc_B := Aside0.mk (hO.blk NE_gc_gr.out gc_B.out)
  clear gc_0 gc_f0 gc_1 gc_f1 gc_2 gc_f2 gc_3 gc_f3 gc_4 gc_f4 gc_5 gc_f5 gc_6 gc_f6 gc_7 gc_f7 gc_8 gc_f8 gc_9 gc_f9 gc_10 gc_f10 gc_11 gc_f11 gc_12 gc_f12
  obtain ⟨gc_0, gc_1, gc_2, gc_3, gc_4, gc_5, gc_6, gc_7, gc_8, gc_9, gc_10, gc_11, gc_12, gc_f0, gc_f1, gc_f2, gc_f3, gc_f4, gc_f5, gc_f6, gc_f7, gc_f8, gc_f9, gc_f10, gc_f11, gc_f12⟩ := cz13_ gc_B.out
  replace gx_B := Aside0.mk (hO.blk NE_gx_gr.out gx_B.out)
  clear gx_0 gx_f0 gx_1 gx_f1
  obtain ⟨gx_0, gx_1, gx_f0, gx_f1⟩ := cz2_ gx_B.out
  replace gy_B := Aside0.mk (hO.blk NE_gy_gr.out gy_B.out)
  clear gy_0 gy_f0 gy_1 gy_f1
  obtain ⟨gy_0, gy_1, gy_f0, gy_f1⟩ := cz2_ gy_B.out
  clear gr_B
  clear gr_0 gr_f0 gr_1 gr_f1
  have gr_B := Aside0.mk hbox
  obtain ⟨gr_0, gr_1, gr_f0, gr_f1⟩ := cz2_ hbox
  replace HB := Aside0.mk (hO.below HB.out gr_G.out)
  clear hbox hO
  refine hK.out _ _ ⟨gc_0, gc_1, gc_2, gc_3, gc_4, gc_5, gc_6, gc_7, gc_8, gc_9, gc_10, gc_11, gc_12, gx_0, gx_1, gy_0, gy_1⟩ (fun _ => ?_)
  clear hK K
  refine norm_ (a' := ?_) ?_ ?_
  rotate_left
  · rfl
  refine done_ (by kernel_rfl) ?_
  go_wp2
  refine bodyPost_ret (results_tc rfl _ _ gr 60 #[.bool hy, .slice Ay ly.length cy] (0, 0) _ rfl gr_B.out Try.underlying60 rfl (by kernel_rfl)) rfl ?_
  exact ⟨rfl, HB.out⟩
set_option maxHeartbeats 8000000 in
set_option maxRecDepth 100000 in
theorem Play_getno (c : S30) (A5 : Option Addr) (c5 : Nat) (A6 : Option Addr) (c6 : Nat) (A10 : Option Addr) (c10 : Nat) (xh : Bool) (hy : Bool) (Ay : Option Addr) (cy : Nat) (ly : List Int) (Ax : Option Addr) (cx : Nat) (lx : List Int) (w : World) (g5 : RdL w A5 c5 c.f2.f3) (g6 : RdL w A6 c6 c.f2.f4) (g10 : RdL w A10 c10 c.f4) (gx : RdL w Ax cx lx) (hn : lx.length < 4611686018427387904) (b0 : 0 ≤ c.f3) (b1 : c.f3 ≤ 255) (hk : (c.f6 != -1) = true) (ha : ∀ W, Below w.heap.size w W → Calls Try.prog 46 #[.agg #[.int .u8 c.f2.f0, .int .u64 c.f2.f1, .int .u64 c.f2.f2, .slice A5 c.f2.f3.length c5, .slice A6 c.f2.f4.length c6, .bool c.f2.f5, .int .u8 c.f2.f6], .agg #[.bool xh, .slice Ax lx.length cx]] W fun e w' => e = .returned (.tuple #[.int .i64 1, .agg #[.bool hy, .slice Ay ly.length cy]]) ∧ Below W.heap.size W w') (f0 : (c.f3 == 4) = false) (f1 : (c.f3 != 1) = false) (f2 : (c.f2.f0 == 1) = true) (hs : decide (lx = c.f4) = false) :
    Calls Try.prog 26 #[.agg #[.int .u8 c.f0, .int .u64 c.f1, .int .u8 c.f2.f0, .int .u64 c.f2.f1, .int .u64 c.f2.f2, .slice A5 c.f2.f3.length c5, .slice A6 c.f2.f4.length c6, .bool c.f2.f5, .int .u8 c.f2.f6, .int .u8 c.f3, .slice A10 c.f4.length c10, .int .i64 c.f5, .int .i64 c.f6], .agg #[.bool xh, .slice Ax lx.length cx]] w fun e w' => e = .returned (.tuple #[.bool false, .agg #[.bool false, .slice none 0 0]]) ∧ Below w.heap.size w w' := by
  have HB := Aside0.mk (Below.refl w.heap.size w)
  have G5 := Aside0.mk g5
  clear g5
  have G6 := Aside0.mk g6
  clear g6
  have G10 := Aside0.mk g10
  clear g10
  have GX := Aside0.mk gx
  clear gx
  have HN := Aside0.mk hn
  clear hn
  have KN := Aside0.mk hk
  clear hk
  have HA := Aside0.mk ha
  clear ha
  have HS := Aside0.mk hs
  clear hs
  go_enter Try.func26, Try.ntmps26
  have hu := Try.underlying60
  have hu2 := Try.underlying27
  have hu3 := Try.underlying30
  go_wp2_with (first | ((with_reducible refine gate_dst (N := 2) rfl ?_); (try (refine gate_guard (by rfl) ?_; dsimp only)); refine box_event (by rfl) (N := 2) (by rfl) (cs := #[.int .u8 c.f0, .int .u64 c.f1, .int .u8 c.f2.f0, .int .u64 c.f2.f1, .int .u64 c.f2.f2, .slice A5 c.f2.f3.length c5, .slice A6 c.f2.f4.length c6, .bool c.f2.f5, .int .u8 c.f2.f6, .int .u8 c.f3, .slice A10 c.f4.length c10, .int .i64 c.f5, .int .i64 c.f6]) (t := 30) ?hrz580 ?_; (case hrz580 => first | (go_simp; done) | (go_simp; rfl)); intro gc hg_ wq579 hbox hb; have gc_G := gG_ hg_ HB; have gc_B := Aside0.mk hbox; obtain ⟨gc_0, gc_1, gc_2, gc_3, gc_4, gc_5, gc_6, gc_7, gc_8, gc_9, gc_10, gc_11, gc_12, gc_f0, gc_f1, gc_f2, gc_f3, gc_f4, gc_f5, gc_f6, gc_f7, gc_f8, gc_f9, gc_f10, gc_f11, gc_f12⟩ := cz13_ hbox; replace HB := Aside0.mk (below_step HB.out hb); clear hbox hb hg_) | ((with_reducible refine gate_dst (N := 3) rfl ?_); (try (refine gate_guard (by rfl) ?_; dsimp only)); refine box_event (by rfl) (N := 3) (by rfl) (cs := #[.bool xh, .slice Ax lx.length cx]) (t := 60) ?hrz582 ?_; (case hrz582 => first | (go_simp; done) | (go_simp; rfl)); intro gx hg_ wq581 hbox hb; have NE_gc_gx := nE1_ hg_ gc_B; have NE_gx_gc := nE2_ hg_ gc_B; have gx_G := gG_ hg_ HB; replace gc_B := Aside0.mk (blk_below gc_B.out hb); clear gc_0 gc_f0 gc_1 gc_f1 gc_2 gc_f2 gc_3 gc_f3 gc_4 gc_f4 gc_5 gc_f5 gc_6 gc_f6 gc_7 gc_f7 gc_8 gc_f8 gc_9 gc_f9 gc_10 gc_f10 gc_11 gc_f11 gc_12 gc_f12; obtain ⟨gc_0, gc_1, gc_2, gc_3, gc_4, gc_5, gc_6, gc_7, gc_8, gc_9, gc_10, gc_11, gc_12, gc_f0, gc_f1, gc_f2, gc_f3, gc_f4, gc_f5, gc_f6, gc_f7, gc_f8, gc_f9, gc_f10, gc_f11, gc_f12⟩ := cz13_ gc_B.out; have gx_B := Aside0.mk hbox; obtain ⟨gx_0, gx_1, gx_f0, gx_f1⟩ := cz2_ hbox; replace HB := Aside0.mk (below_step HB.out hb); clear hbox hb hg_) | ((with_reducible refine gate_dst (N := 5) rfl ?_); (try (refine gate_guard (by rfl) ?_; dsimp only)); refine box_event (by rfl) (N := 5) (by rfl) (cs := #[.bool false, .slice none 0 0]) (t := 60) ?hrz584 ?_; (case hrz584 => first | (go_simp; done) | (go_simp; rfl)); intro gr hg_ wq583 hbox hb; have NE_gc_gr := nE1_ hg_ gc_B; have NE_gr_gc := nE2_ hg_ gc_B; have NE_gx_gr := nE1_ hg_ gx_B; have NE_gr_gx := nE2_ hg_ gx_B; have gr_G := gG_ hg_ HB; replace gc_B := Aside0.mk (blk_below gc_B.out hb); clear gc_0 gc_f0 gc_1 gc_f1 gc_2 gc_f2 gc_3 gc_f3 gc_4 gc_f4 gc_5 gc_f5 gc_6 gc_f6 gc_7 gc_f7 gc_8 gc_f8 gc_9 gc_f9 gc_10 gc_f10 gc_11 gc_f11 gc_12 gc_f12; obtain ⟨gc_0, gc_1, gc_2, gc_3, gc_4, gc_5, gc_6, gc_7, gc_8, gc_9, gc_10, gc_11, gc_12, gc_f0, gc_f1, gc_f2, gc_f3, gc_f4, gc_f5, gc_f6, gc_f7, gc_f8, gc_f9, gc_f10, gc_f11, gc_f12⟩ := cz13_ gc_B.out; replace gx_B := Aside0.mk (blk_below gx_B.out hb); clear gx_0 gx_f0 gx_1 gx_f1; obtain ⟨gx_0, gx_1, gx_f0, gx_f1⟩ := cz2_ gx_B.out; have gr_B := Aside0.mk hbox; obtain ⟨gr_0, gr_1, gr_f0, gr_f1⟩ := cz2_ hbox; replace HB := Aside0.mk (below_step HB.out hb); clear hbox hb hg_) | ((with_reducible refine gate_dst (N := 7) rfl ?_); (try (refine gate_guard (by rfl) ?_; dsimp only)); refine box_event (by rfl) (N := 7) (by rfl) (cs := #[.bool false, .slice none 0 0]) (t := 60) ?hrz586 ?_; (case hrz586 => first | (go_simp; done) | (go_simp; rfl)); intro gy hg_ wq585 hbox hb; have NE_gc_gy := nE1_ hg_ gc_B; have NE_gy_gc := nE2_ hg_ gc_B; have NE_gx_gy := nE1_ hg_ gx_B; have NE_gy_gx := nE2_ hg_ gx_B; have NE_gr_gy := nE1_ hg_ gr_B; have NE_gy_gr := nE2_ hg_ gr_B; have gy_G := gG_ hg_ HB; replace gc_B := Aside0.mk (blk_below gc_B.out hb); clear gc_0 gc_f0 gc_1 gc_f1 gc_2 gc_f2 gc_3 gc_f3 gc_4 gc_f4 gc_5 gc_f5 gc_6 gc_f6 gc_7 gc_f7 gc_8 gc_f8 gc_9 gc_f9 gc_10 gc_f10 gc_11 gc_f11 gc_12 gc_f12; obtain ⟨gc_0, gc_1, gc_2, gc_3, gc_4, gc_5, gc_6, gc_7, gc_8, gc_9, gc_10, gc_11, gc_12, gc_f0, gc_f1, gc_f2, gc_f3, gc_f4, gc_f5, gc_f6, gc_f7, gc_f8, gc_f9, gc_f10, gc_f11, gc_f12⟩ := cz13_ gc_B.out; replace gx_B := Aside0.mk (blk_below gx_B.out hb); clear gx_0 gx_f0 gx_1 gx_f1; obtain ⟨gx_0, gx_1, gx_f0, gx_f1⟩ := cz2_ gx_B.out; replace gr_B := Aside0.mk (blk_below gr_B.out hb); clear gr_0 gr_f0 gr_1 gr_f1; obtain ⟨gr_0, gr_1, gr_f0, gr_f1⟩ := cz2_ gr_B.out; have gy_B := Aside0.mk hbox; obtain ⟨gy_0, gy_1, gy_f0, gy_f1⟩ := cz2_ hbox; replace HB := Aside0.mk (below_step HB.out hb); clear hbox hb hg_) | ((with_reducible refine gate_store (p := 7) rfl ?_); refine st_all (g := gy) 7 [.bool hy, .slice Ay ly.length cy] ?ttz588 ?xxz588 ?uuz588 ?htz588 ?eez588 gy_B.out ?_; (case eez588 => and_intros <;> rfl); (case htz588 => kernel_rfl); intro wq587 hbox hO; replace gc_B := Aside0.mk (hO.blk NE_gc_gy.out gc_B.out); clear gc_0 gc_f0 gc_1 gc_f1 gc_2 gc_f2 gc_3 gc_f3 gc_4 gc_f4 gc_5 gc_f5 gc_6 gc_f6 gc_7 gc_f7 gc_8 gc_f8 gc_9 gc_f9 gc_10 gc_f10 gc_11 gc_f11 gc_12 gc_f12; obtain ⟨gc_0, gc_1, gc_2, gc_3, gc_4, gc_5, gc_6, gc_7, gc_8, gc_9, gc_10, gc_11, gc_12, gc_f0, gc_f1, gc_f2, gc_f3, gc_f4, gc_f5, gc_f6, gc_f7, gc_f8, gc_f9, gc_f10, gc_f11, gc_f12⟩ := cz13_ gc_B.out; replace gx_B := Aside0.mk (hO.blk NE_gx_gy.out gx_B.out); clear gx_0 gx_f0 gx_1 gx_f1; obtain ⟨gx_0, gx_1, gx_f0, gx_f1⟩ := cz2_ gx_B.out; replace gr_B := Aside0.mk (hO.blk NE_gr_gy.out gr_B.out); clear gr_0 gr_f0 gr_1 gr_f1; obtain ⟨gr_0, gr_1, gr_f0, gr_f1⟩ := cz2_ gr_B.out; clear gy_B; clear gy_0 gy_f0 gy_1 gy_f1; have gy_B := Aside0.mk hbox; obtain ⟨gy_0, gy_1, gy_f0, gy_f1⟩ := cz2_ hbox; replace HB := Aside0.mk (hO.below HB.out gy_G.out); clear hbox hO) | (go_at_call 46; refine (HA.out _ ?s0_z590).mono ?_; (case s0_z590 => with_reducible exact HB.out); rintro e wq589 ⟨rfl, hb⟩; replace gc_B := Aside0.mk (blk_below gc_B.out hb); clear gc_0 gc_f0 gc_1 gc_f1 gc_2 gc_f2 gc_3 gc_f3 gc_4 gc_f4 gc_5 gc_f5 gc_6 gc_f6 gc_7 gc_f7 gc_8 gc_f8 gc_9 gc_f9 gc_10 gc_f10 gc_11 gc_f11 gc_12 gc_f12; obtain ⟨gc_0, gc_1, gc_2, gc_3, gc_4, gc_5, gc_6, gc_7, gc_8, gc_9, gc_10, gc_11, gc_12, gc_f0, gc_f1, gc_f2, gc_f3, gc_f4, gc_f5, gc_f6, gc_f7, gc_f8, gc_f9, gc_f10, gc_f11, gc_f12⟩ := cz13_ gc_B.out; replace gx_B := Aside0.mk (blk_below gx_B.out hb); clear gx_0 gx_f0 gx_1 gx_f1; obtain ⟨gx_0, gx_1, gx_f0, gx_f1⟩ := cz2_ gx_B.out; replace gr_B := Aside0.mk (blk_below gr_B.out hb); clear gr_0 gr_f0 gr_1 gr_f1; obtain ⟨gr_0, gr_1, gr_f0, gr_f1⟩ := cz2_ gr_B.out; replace HB := Aside0.mk (below_step HB.out hb); clear hb) | (go_at_call 45; refine (Known_calls c true A5 c5 A6 c6 A10 c10 _ ?s0_z592 ?s1_z592 ?s2_z592 ?s3_z592).mono ?_; (case s0_z592 => exact KN.out); (case s1_z592 => with_reducible exact lC G5.out HB.out); (case s2_z592 => with_reducible exact lC G6.out HB.out); (case s3_z592 => with_reducible exact lC G10.out HB.out); rintro e wq591 ⟨rfl, hb⟩; replace gc_B := Aside0.mk (blk_below gc_B.out hb); clear gc_0 gc_f0 gc_1 gc_f1 gc_2 gc_f2 gc_3 gc_f3 gc_4 gc_f4 gc_5 gc_f5 gc_6 gc_f6 gc_7 gc_f7 gc_8 gc_f8 gc_9 gc_f9 gc_10 gc_f10 gc_11 gc_f11 gc_12 gc_f12; obtain ⟨gc_0, gc_1, gc_2, gc_3, gc_4, gc_5, gc_6, gc_7, gc_8, gc_9, gc_10, gc_11, gc_12, gc_f0, gc_f1, gc_f2, gc_f3, gc_f4, gc_f5, gc_f6, gc_f7, gc_f8, gc_f9, gc_f10, gc_f11, gc_f12⟩ := cz13_ gc_B.out; replace gx_B := Aside0.mk (blk_below gx_B.out hb); clear gx_0 gx_f0 gx_1 gx_f1; obtain ⟨gx_0, gx_1, gx_f0, gx_f1⟩ := cz2_ gx_B.out; replace gr_B := Aside0.mk (blk_below gr_B.out hb); clear gr_0 gr_f0 gr_1 gr_f1; obtain ⟨gr_0, gr_1, gr_f0, gr_f1⟩ := cz2_ gr_B.out; replace gy_B := Aside0.mk (blk_below gy_B.out hb); clear gy_0 gy_f0 gy_1 gy_f1; obtain ⟨gy_0, gy_1, gy_f0, gy_f1⟩ := cz2_ gy_B.out; replace HB := Aside0.mk (below_step HB.out hb); clear hb) | (go_at_call 47; refine (same14_calls false Ax cx lx A10 c10 c.f4 _ ?s0_z594 ?s1_z594 ?s2_z594 ?s3_z594).mono ?_; (case s0_z594 => with_reducible exact lC GX.out HB.out); (case s1_z594 => with_reducible exact lC G10.out HB.out); (case s2_z594 => exact HN.out); (case s3_z594 => exact HS.out); rintro e wq593 ⟨rfl, hb⟩; replace gc_B := Aside0.mk (blk_below gc_B.out hb); clear gc_0 gc_f0 gc_1 gc_f1 gc_2 gc_f2 gc_3 gc_f3 gc_4 gc_f4 gc_5 gc_f5 gc_6 gc_f6 gc_7 gc_f7 gc_8 gc_f8 gc_9 gc_f9 gc_10 gc_f10 gc_11 gc_f11 gc_12 gc_f12; obtain ⟨gc_0, gc_1, gc_2, gc_3, gc_4, gc_5, gc_6, gc_7, gc_8, gc_9, gc_10, gc_11, gc_12, gc_f0, gc_f1, gc_f2, gc_f3, gc_f4, gc_f5, gc_f6, gc_f7, gc_f8, gc_f9, gc_f10, gc_f11, gc_f12⟩ := cz13_ gc_B.out; replace gx_B := Aside0.mk (blk_below gx_B.out hb); clear gx_0 gx_f0 gx_1 gx_f1; obtain ⟨gx_0, gx_1, gx_f0, gx_f1⟩ := cz2_ gx_B.out; replace gr_B := Aside0.mk (blk_below gr_B.out hb); clear gr_0 gr_f0 gr_1 gr_f1; obtain ⟨gr_0, gr_1, gr_f0, gr_f1⟩ := cz2_ gr_B.out; replace gy_B := Aside0.mk (blk_below gy_B.out hb); clear gy_0 gy_f0 gy_1 gy_f1; obtain ⟨gy_0, gy_1, gy_f0, gy_f1⟩ := cz2_ gy_B.out; replace HB := Aside0.mk (below_step HB.out hb); clear hb) | ((with_reducible refine gate_store (p := 5) rfl ?_); refine st_all (g := gr) 5 [.bool false, .slice none 0 0] ?ttz596 ?xxz596 ?uuz596 ?htz596 ?eez596 gr_B.out ?_; (case eez596 => and_intros <;> rfl); (case htz596 => kernel_rfl); intro wq595 hbox hO; replace gc_B := Aside0.mk (hO.blk NE_gc_gr.out gc_B.out); clear gc_0 gc_f0 gc_1 gc_f1 gc_2 gc_f2 gc_3 gc_f3 gc_4 gc_f4 gc_5 gc_f5 gc_6 gc_f6 gc_7 gc_f7 gc_8 gc_f8 gc_9 gc_f9 gc_10 gc_f10 gc_11 gc_f11 gc_12 gc_f12; obtain ⟨gc_0, gc_1, gc_2, gc_3, gc_4, gc_5, gc_6, gc_7, gc_8, gc_9, gc_10, gc_11, gc_12, gc_f0, gc_f1, gc_f2, gc_f3, gc_f4, gc_f5, gc_f6, gc_f7, gc_f8, gc_f9, gc_f10, gc_f11, gc_f12⟩ := cz13_ gc_B.out; replace gx_B := Aside0.mk (hO.blk NE_gx_gr.out gx_B.out); clear gx_0 gx_f0 gx_1 gx_f1; obtain ⟨gx_0, gx_1, gx_f0, gx_f1⟩ := cz2_ gx_B.out; replace gy_B := Aside0.mk (hO.blk NE_gy_gr.out gy_B.out); clear gy_0 gy_f0 gy_1 gy_f1; obtain ⟨gy_0, gy_1, gy_f0, gy_f1⟩ := cz2_ gy_B.out; clear gr_B; clear gr_0 gr_f0 gr_1 gr_f1; have gr_B := Aside0.mk hbox; obtain ⟨gr_0, gr_1, gr_f0, gr_f1⟩ := cz2_ hbox; replace HB := Aside0.mk (hO.below HB.out gr_G.out); clear hbox hO))
  refine bodyPost_ret (results_tc rfl _ _ gr 60 #[.bool false, .slice none 0 0] (0, 0) _ rfl gr_B.out Try.underlying60 rfl (by kernel_rfl)) rfl ?_
  exact ⟨rfl, HB.out⟩
end Go.Proofs.Ytdjdbjcapenjeaa.P
