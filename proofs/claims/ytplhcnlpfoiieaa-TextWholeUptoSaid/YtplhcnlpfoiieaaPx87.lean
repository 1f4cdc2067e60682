-- Written by printx.py (this work's driver over the kit's print) out of the translation; Lean checks it.
import Derived.Test.YtplhcnlpfoiieaaPx0
import Derived.Test.YtplhcnlpfoiieaaPx5
import Derived.Test.YtplhcnlpfoiieaaPx63
namespace Go.Proofs.Ytplhcnlpfoiieaa.P
open Go.RowKit Go.Proofs.YtplhcnlpfoiieaaW.PrintWords Go.Proofs.YtplhcnlpfoiieaaW.PrintLast Go.Proofs.YtplhcnlpfoiieaaW.PrintMore
attribute [local go_sem] max2_int min2_int max_two min_two max_three min_three max_four min_four   -- for this text's walks alone
set_option linter.unusedVariables false
set_option linter.unusedSimpArgs false

/-! ### shardlaw1_TextWhole: function 6 -/
mutual
def shardlaw1_TextWhole.l0 : Nat → ByteArray → List (S28) → Int → Int → Option (Bool)
  | 0, _, _, _, _ => none
  | k + 1, x0, x3, x4, x5 => if x5 < (x3.length : Int) then (if 0 ≤ x5 then (if ((rd_T28 x3 x5).f1) = x4 then (if ((rd_T28 x3 x5).f2) < 1 then (shardlaw1_TextWhole.j1 k x0 x3 x4 x5 true ((rd_T28 x3 x5).f0) ((rd_T28 x3 x5).f1) ((rd_T28 x3 x5).f2) ((rd_T28 x3 x5).f3)) else (if ((rd_T28 x3 x5).f2) > 4 then (shardlaw1_TextWhole.j1 k x0 x3 x4 x5 true ((rd_T28 x3 x5).f0) ((rd_T28 x3 x5).f1) ((rd_T28 x3 x5).f2) ((rd_T28 x3 x5).f3)) else (shardlaw1_TextWhole.j1 k x0 x3 x4 x5 (decide ((wrap64 (((rd_T28 x3 x5).f1) + ((rd_T28 x3 x5).f2))) > (x0.size : Int))) ((rd_T28 x3 x5).f0) ((rd_T28 x3 x5).f1) ((rd_T28 x3 x5).f2) ((rd_T28 x3 x5).f3)))) else (shardlaw1_TextWhole.j1 k x0 x3 x4 x5 true ((rd_T28 x3 x5).f0) ((rd_T28 x3 x5).f1) ((rd_T28 x3 x5).f2) ((rd_T28 x3 x5).f3))) else (none)) else (some (x4 == (x0.size : Int)))
def shardlaw1_TextWhole.j1 : Nat → ByteArray → List (S28) → Int → Int → Bool → Int → Int → Int → Bool → Option (Bool)
  | 0, _, _, _, _, _, _, _, _, _ => none
  | k + 1, x0, x3, x4, x5, x44, x554000, x554001, x554002, x554003 => if x44 = true then (some false) else ((text_Encode.f k x554000).bind fun bt554 => (if x554003 = true then (if x554002 = 1 then (if x554000 < 128 then (shardlaw1_TextWhole.j2 k x0 x3 (wrap64 (x4 + x554002)) x5 true) else (if 0 ≤ x554001 then (if x554001 < (x0.size : Int) then (if ((x554000) % 256) = (bt x0 x554001) then (shardlaw1_TextWhole.j2 k x0 x3 (wrap64 (x4 + x554002)) x5 (decide (x554000 > 255))) else (shardlaw1_TextWhole.j2 k x0 x3 (wrap64 (x4 + x554002)) x5 true)) else (none)) else (none))) else (shardlaw1_TextWhole.j2 k x0 x3 (wrap64 (x4 + x554002)) x5 true)) else (if bt554.2 = 0 then (if 0 ≤ x554001 then (if x554001 ≤ (wrap64 (x4 + x554002)) then (if (wrap64 (x4 + x554002)) ≤ (x0.size : Int) then (if bt554.1.toList = (x0.extract (x554001 : Int).toNat ((wrap64 (x4 + x554002)) : Int).toNat).toList then (shardlaw1_TextWhole.l0 k x0 x3 (wrap64 (x4 + x554002)) (wrap64 (x5 + 1))) else (some false)) else (none)) else (none)) else (none)) else (some false))))
def shardlaw1_TextWhole.j2 : Nat → ByteArray → List (S28) → Int → Int → Bool → Option (Bool)
  | 0, _, _, _, _, _ => none
  | k + 1, x0, x3, x4, x5, x79 => if x79 = true then (some false) else (shardlaw1_TextWhole.l0 k x0 x3 x4 (wrap64 (x5 + 1)))
end
def shardlaw1_TextWhole.f (k : Nat) (a0 : ByteArray) : Option (Bool) := (text_Pieces.f a0).bind fun t549 => (shardlaw1_TextWhole.l0 k a0 t549 0 0)
theorem shardlaw1_TextWhole.mono_l : ∀ k, (∀ y0 y1 y2 y3, LeO (shardlaw1_TextWhole.l0 k y0 y1 y2 y3) (shardlaw1_TextWhole.l0 (k + 1) y0 y1 y2 y3)) ∧ (∀ y0 y1 y2 y3 y4 y5 y6 y7 y8, LeO (shardlaw1_TextWhole.j1 k y0 y1 y2 y3 y4 y5 y6 y7 y8) (shardlaw1_TextWhole.j1 (k + 1) y0 y1 y2 y3 y4 y5 y6 y7 y8)) ∧ (∀ y0 y1 y2 y3 y4, LeO (shardlaw1_TextWhole.j2 k y0 y1 y2 y3 y4) (shardlaw1_TextWhole.j2 (k + 1) y0 y1 y2 y3 y4))
  | 0 => ⟨fun _ _ _ _ r h => by simp [shardlaw1_TextWhole.l0] at h, fun _ _ _ _ _ _ _ _ _ r h => by simp [shardlaw1_TextWhole.j1] at h, fun _ _ _ _ _ r h => by simp [shardlaw1_TextWhole.j2] at h⟩
  | k + 1 => by
    obtain ⟨ih0, ih1, ih2⟩ := shardlaw1_TextWhole.mono_l k
    refine ⟨?_, ?_, ?_⟩
    · intro y0 y1 y2 y3
      unfold shardlaw1_TextWhole.l0
      repeat' first
      | (with_reducible exact ih0 _ _ _ _)
      | (with_reducible exact ih1 _ _ _ _ _ _ _ _ _)
      | (with_reducible exact ih2 _ _ _ _ _)
      | (with_reducible exact text_Encode.mono _ _)
      | (with_reducible exact LeO.refl _)
      | (with_reducible exact LeO.none _)
      | (with_reducible refine LeO.ite ?_ ?_)
      | (with_reducible refine LeO.bind ?_ (fun _ => ?_))
      | exact ih0 _ _ _ _
      | exact ih1 _ _ _ _ _ _ _ _ _
      | exact ih2 _ _ _ _ _
      | exact text_Encode.mono _ _
      | exact LeO.none _
      | refine LeO.ite ?_ ?_
      | refine LeO.bind ?_ (fun _ => ?_)
    · intro y0 y1 y2 y3 y4 y5 y6 y7 y8
      unfold shardlaw1_TextWhole.j1
      repeat' first
      | (with_reducible exact ih0 _ _ _ _)
      | (with_reducible exact ih1 _ _ _ _ _ _ _ _ _)
      | (with_reducible exact ih2 _ _ _ _ _)
      | (with_reducible exact text_Encode.mono _ _)
      | (with_reducible exact LeO.refl _)
      | (with_reducible exact LeO.none _)
      | (with_reducible refine LeO.ite ?_ ?_)
      | (with_reducible refine LeO.bind ?_ (fun _ => ?_))
      | exact ih0 _ _ _ _
      | exact ih1 _ _ _ _ _ _ _ _ _
      | exact ih2 _ _ _ _ _
      | exact text_Encode.mono _ _
      | exact LeO.none _
      | refine LeO.ite ?_ ?_
      | refine LeO.bind ?_ (fun _ => ?_)
    · intro y0 y1 y2 y3 y4
      unfold shardlaw1_TextWhole.j2
      repeat' first
      | (with_reducible exact ih0 _ _ _ _)
      | (with_reducible exact ih1 _ _ _ _ _ _ _ _ _)
      | (with_reducible exact ih2 _ _ _ _ _)
      | (with_reducible exact text_Encode.mono _ _)
      | (with_reducible exact LeO.refl _)
      | (with_reducible exact LeO.none _)
      | (with_reducible refine LeO.ite ?_ ?_)
      | (with_reducible refine LeO.bind ?_ (fun _ => ?_))
      | exact ih0 _ _ _ _
      | exact ih1 _ _ _ _ _ _ _ _ _
      | exact ih2 _ _ _ _ _
      | exact text_Encode.mono _ _
      | exact LeO.none _
      | refine LeO.ite ?_ ?_
      | refine LeO.bind ?_ (fun _ => ?_)
theorem shardlaw1_TextWhole.mono : ∀ a0 k, LeO (shardlaw1_TextWhole.f k a0) (shardlaw1_TextWhole.f (k + 1) a0) := by
  intro a0 k
  obtain ⟨ih0, ih1, ih2⟩ := shardlaw1_TextWhole.mono_l k
  unfold shardlaw1_TextWhole.f
  repeat' first
      | (with_reducible exact ih0 _ _ _ _)
      | (with_reducible exact ih1 _ _ _ _ _ _ _ _ _)
      | (with_reducible exact ih2 _ _ _ _ _)
      | (with_reducible exact text_Encode.mono _ _)
      | (with_reducible exact LeO.refl _)
      | (with_reducible exact LeO.none _)
      | (with_reducible refine LeO.ite ?_ ?_)
      | (with_reducible refine LeO.bind ?_ (fun _ => ?_))
      | exact ih0 _ _ _ _
      | exact ih1 _ _ _ _ _ _ _ _ _
      | exact ih2 _ _ _ _ _
      | exact text_Encode.mono _ _
      | exact LeO.none _
      | refine LeO.ite ?_ ?_
      | refine LeO.bind ?_ (fun _ => ?_)
set_option maxHeartbeats 8000000 in
set_option maxRecDepth 100000 in
theorem shardlaw1_TextWhole.calls (k : Nat) (a0 : ByteArray) (r : Bool) (w : World) (h : shardlaw1_TextWhole.f k a0 = some r) :
    Calls Try.prog 6 #[.string a0] w fun e w' => e = .returned (.bool r) ∧ Below w.heap.size w w' := by
  have hu28 := Try.underlying28
  have HB := Aside0.mk (Below.refl w.heap.size w)
  have H : ((text_Pieces.f a0).bind fun t549 => (shardlaw1_TextWhole.l0 k a0 t549 0 0)) = some r := h
  clear h
  replace H := Option.bind_eq_some_iff.mp H
  obtain ⟨t549, A20, H⟩ := H
  replace H : (shardlaw1_TextWhole.l0 k a0 t549 0 0) = some r := H
  have A2 := Aside0.mk A20
  clear A20
  have H' := Aside0.mk H
  clear H
  go_enter Try.func6, Try.ntmps6
  go_wp2_with (first | (go_at_call 15; (with_reducible refine (text_Pieces.calls a0 t549 _ A2.out).mono ?_); rintro e w3 ⟨v550, rfl, ho0, hb⟩; have n0_ := Aside0.mk (Kd.R_lower ho0 (below_size (by repeat (first | (with_reducible first | exact HB.out | apply below_alloc | apply pw_below_drewN | apply below_drew1) | exact HB.out)))); have n1_ := Aside0.mk (below_step (by repeat (first | (with_reducible first | exact HB.out | apply below_alloc | apply pw_below_drewN | apply below_drew1) | exact HB.out)) hb); clear HB; have HO551 := n0_; have HB := n1_; clear n0_ n1_; (try clear hb); (try clear hb2); (try clear hk); (try clear hi); (try clear ho0)))
  repeat (go_quiet (first | (go_at_call 15; (with_reducible refine (text_Pieces.calls a0 t549 _ A2.out).mono ?_); rintro e w3 ⟨v550, rfl, ho0, hb⟩; have n0_ := Aside0.mk (Kd.R_lower ho0 (below_size (by repeat (first | (with_reducible first | exact HB.out | apply below_alloc | apply pw_below_drewN | apply below_drew1) | exact HB.out)))); have n1_ := Aside0.mk (below_step (by repeat (first | (with_reducible first | exact HB.out | apply below_alloc | apply pw_below_drewN | apply below_drew1) | exact HB.out)) hb); clear HB; have HO551 := n0_; have HB := n1_; clear n0_ n1_; (try clear hb); (try clear hb2); (try clear hk); (try clear hi); (try clear ho0))); try go_wp2_with (first | (go_at_call 15; (with_reducible refine (text_Pieces.calls a0 t549 _ A2.out).mono ?_); rintro e w3 ⟨v550, rfl, ho0, hb⟩; have n0_ := Aside0.mk (Kd.R_lower ho0 (below_size (by repeat (first | (with_reducible first | exact HB.out | apply below_alloc | apply pw_below_drewN | apply below_drew1) | exact HB.out)))); have n1_ := Aside0.mk (below_step (by repeat (first | (with_reducible first | exact HB.out | apply below_alloc | apply pw_below_drewN | apply below_drew1) | exact HB.out)) hb); clear HB; have HO551 := n0_; have HB := n1_; clear n0_ n1_; (try clear hb); (try clear hb2); (try clear hk); (try clear hi); (try clear ho0))))
  go_loopg [4, 5] k (fun kq v4 v5 w' => ∃ (x4_1 : Int) (x5_1 : Int), v4 = .int .i64 x4_1 ∧ v5 = .int .i64 x5_1 ∧ Aside0 (shardlaw1_TextWhole.l0 kq a0 t549 x4_1 x5_1 = some r) ∧ Aside0 (kq ≤ k) ∧ Aside0 (Kd.R k28 28 w' w.heap.size (fun _ => True) v550 t549) ∧ Aside0 (Below w.heap.size w w'))
  case atStart => exact ⟨(0), (0), (by first | rfl | (simp; done) | (simp [*]; done)), (by first | rfl | (simp; done) | (simp [*]; done)), H', ⟨Nat.le_refl _⟩, ⟨by (with_reducible repeat (first | apply Kd.R_alloc | apply Kd.R_drewN | apply Kd.R_drew)); exact HO551.out⟩, ⟨by repeat (first | (with_reducible first | exact HB.out | apply below_alloc | apply pw_below_drewN | apply below_drew1) | exact HB.out)⟩⟩
  case round =>
    clear H'
    try clear p2
    obtain ⟨x4_1, x5_1, rfl, rfl, HA, HK1, HO_3, HB⟩ := hrel
    cases gk with
    | zero => exact absurd HA.out (by simp [shardlaw1_TextWhole.l0])
    | succ k1 =>
      have H := HA.out
      clear HA
      simp only [shardlaw1_TextWhole.l0] at H
      by_cases c4 : x5_1 < (t549.length : Int)
      · rw [if_pos c4] at H
        have c4b0 : decide (x5_1 < (t549.length : Int)) = true := decide_eq_true c4
        clear c4
        by_cases c5 : 0 ≤ x5_1
        · rw [if_pos c5] at H
          have c5b0 : decide (0 ≤ x5_1) = true := decide_eq_true c5
          clear c5
          have HC6 := Aside0.mk H
          clear H
          obtain ⟨Ao7, co7, eo7⟩ := Kd.R_slice HO_3.out
          subst eo7
          have p552 : 0 ≤ (x5_1 : Int) := of_decide_eq_true (by first | (with_reducible assumption) | assumption)
          have q552 : x5_1 < (t549.length : Int) := of_decide_eq_true (by first | (with_reducible assumption) | assumption)
          obtain ⟨ad552, e552, hx552_0, hx552_1, hx552_2, hx552_3⟩ := at_T28 (Kd.R_reads' HO_3.out).2.2 x5_1 p552 q552
          cases e552
          replace p552 := eq_true p552
          replace q552 := eq_true q552
          go_upto_region 7 with (first | ((with_reducible refine gate_dst (N := 6) rfl ?_); (try (refine gate_guard (by rfl) ?_; dsimp only)); refine box_event ?hg (N := 6) ?hd (cs := #[.int .i32 0, .int .i64 0, .int .i64 0, .bool false]) (t := 28) ?hr ?_; (case hd => rfl); (case hg => rfl); (case hr => first | (go_simp; done) | (go_simp; rfl)); intro gb553 hg w8 hbox hb; have n0_ := Aside0.mk (Kd.R_below (Kd.R_elderB (by (with_reducible repeat (first | apply Kd.R_alloc | apply Kd.R_drewN | apply Kd.R_drew)); exact HO_3.out) gb553 (Nat.le_of_eq hg.symm)) hb); have n1_ := Aside0.mk (below_step (by repeat (first | (with_reducible first | exact HB.out | apply below_alloc | apply pw_below_drewN | apply below_drew1) | exact HB.out)) hb); have n2_ := Aside0.mk (hbox); have n3_ := Aside0.mk ((by rw [hg]; exact (below_size (by repeat (first | (with_reducible first | exact HB.out | apply below_alloc | apply pw_below_drewN | apply below_drew1) | exact HB.out))) : w.heap.size ≤ gb553)); have n4_ := Aside0.mk ((by rw [hg]; exact (below_size (by repeat (first | (with_reducible first | exact HB.out | apply below_alloc | apply pw_below_drewN | apply below_drew1) | exact HB.out))) : w.heap.size ≤ gb553)); clear HO_3; clear HB; have HO_3 := n0_; have HB := n1_; have BK553 := n2_; have GW553 := n3_; have GE553 := n4_; clear n0_ n1_ n2_ n3_ n4_; clear hb hbox hg; have hcz9_0 : w8.cell? ⟨gb553, 0, none⟩ = some (.int .i32 0) := (blk_cell BK553.out 0).trans rfl; have hcz9_1 : w8.cell? ⟨gb553, 1, none⟩ = some (.int .i64 0) := (blk_cell BK553.out 1).trans rfl; have hcz9_2 : w8.cell? ⟨gb553, 2, none⟩ = some (.int .i64 0) := (blk_cell BK553.out 2).trans rfl; have hcz9_3 : w8.cell? ⟨gb553, 3, none⟩ = some (.bool false) := (blk_cell BK553.out 3).trans rfl; have hfz9_0 := blk_frozen BK553.out 0; have hfz9_1 := blk_frozen BK553.out 1; have hfz9_2 := blk_frozen BK553.out 2; have hfz9_3 := blk_frozen BK553.out 3))
          repeat (go_quiet (first | ((with_reducible refine gate_dst (N := 6) rfl ?_); (try (refine gate_guard (by rfl) ?_; dsimp only)); refine box_event ?hg (N := 6) ?hd (cs := #[.int .i32 0, .int .i64 0, .int .i64 0, .bool false]) (t := 28) ?hr ?_; (case hd => rfl); (case hg => rfl); (case hr => first | (go_simp; done) | (go_simp; rfl)); intro gb553 hg w8 hbox hb; have n0_ := Aside0.mk (Kd.R_below (Kd.R_elderB (by (with_reducible repeat (first | apply Kd.R_alloc | apply Kd.R_drewN | apply Kd.R_drew)); exact HO_3.out) gb553 (Nat.le_of_eq hg.symm)) hb); have n1_ := Aside0.mk (below_step (by repeat (first | (with_reducible first | exact HB.out | apply below_alloc | apply pw_below_drewN | apply below_drew1) | exact HB.out)) hb); have n2_ := Aside0.mk (hbox); have n3_ := Aside0.mk ((by rw [hg]; exact (below_size (by repeat (first | (with_reducible first | exact HB.out | apply below_alloc | apply pw_below_drewN | apply below_drew1) | exact HB.out))) : w.heap.size ≤ gb553)); have n4_ := Aside0.mk ((by rw [hg]; exact (below_size (by repeat (first | (with_reducible first | exact HB.out | apply below_alloc | apply pw_below_drewN | apply below_drew1) | exact HB.out))) : w.heap.size ≤ gb553)); clear HO_3; clear HB; have HO_3 := n0_; have HB := n1_; have BK553 := n2_; have GW553 := n3_; have GE553 := n4_; clear n0_ n1_ n2_ n3_ n4_; clear hb hbox hg; have hcz9_0 : w8.cell? ⟨gb553, 0, none⟩ = some (.int .i32 0) := (blk_cell BK553.out 0).trans rfl; have hcz9_1 : w8.cell? ⟨gb553, 1, none⟩ = some (.int .i64 0) := (blk_cell BK553.out 1).trans rfl; have hcz9_2 : w8.cell? ⟨gb553, 2, none⟩ = some (.int .i64 0) := (blk_cell BK553.out 2).trans rfl; have hcz9_3 : w8.cell? ⟨gb553, 3, none⟩ = some (.bool false) := (blk_cell BK553.out 3).trans rfl; have hfz9_0 := blk_frozen BK553.out 0; have hfz9_1 := blk_frozen BK553.out 1; have hfz9_2 := blk_frozen BK553.out 2; have hfz9_3 := blk_frozen BK553.out 3)); go_upto_region 7 with (first | ((with_reducible refine gate_dst (N := 6) rfl ?_); (try (refine gate_guard (by rfl) ?_; dsimp only)); refine box_event ?hg (N := 6) ?hd (cs := #[.int .i32 0, .int .i64 0, .int .i64 0, .bool false]) (t := 28) ?hr ?_; (case hd => rfl); (case hg => rfl); (case hr => first | (go_simp; done) | (go_simp; rfl)); intro gb553 hg w8 hbox hb; have n0_ := Aside0.mk (Kd.R_below (Kd.R_elderB (by (with_reducible repeat (first | apply Kd.R_alloc | apply Kd.R_drewN | apply Kd.R_drew)); exact HO_3.out) gb553 (Nat.le_of_eq hg.symm)) hb); have n1_ := Aside0.mk (below_step (by repeat (first | (with_reducible first | exact HB.out | apply below_alloc | apply pw_below_drewN | apply below_drew1) | exact HB.out)) hb); have n2_ := Aside0.mk (hbox); have n3_ := Aside0.mk ((by rw [hg]; exact (below_size (by repeat (first | (with_reducible first | exact HB.out | apply below_alloc | apply pw_below_drewN | apply below_drew1) | exact HB.out))) : w.heap.size ≤ gb553)); have n4_ := Aside0.mk ((by rw [hg]; exact (below_size (by repeat (first | (with_reducible first | exact HB.out | apply below_alloc | apply pw_below_drewN | apply below_drew1) | exact HB.out))) : w.heap.size ≤ gb553)); clear HO_3; clear HB; have HO_3 := n0_; have HB := n1_; have BK553 := n2_; have GW553 := n3_; have GE553 := n4_; clear n0_ n1_ n2_ n3_ n4_; clear hb hbox hg; have hcz9_0 : w8.cell? ⟨gb553, 0, none⟩ = some (.int .i32 0) := (blk_cell BK553.out 0).trans rfl; have hcz9_1 : w8.cell? ⟨gb553, 1, none⟩ = some (.int .i64 0) := (blk_cell BK553.out 1).trans rfl; have hcz9_2 : w8.cell? ⟨gb553, 2, none⟩ = some (.int .i64 0) := (blk_cell BK553.out 2).trans rfl; have hcz9_3 : w8.cell? ⟨gb553, 3, none⟩ = some (.bool false) := (blk_cell BK553.out 3).trans rfl; have hfz9_0 := blk_frozen BK553.out 0; have hfz9_1 := blk_frozen BK553.out 1; have hfz9_2 := blk_frozen BK553.out 2; have hfz9_3 := blk_frozen BK553.out 3)))
          (try simp only [Act.put, List.setIfInBounds_toArray, List.set_cons_zero, List.set_cons_succ])
          go_cut [44] (fun v44 wc => ∃ (kq : Nat) (x44_5 : Bool), v44 = .bool x44_5 ∧ Aside0 (shardlaw1_TextWhole.j1 kq a0 t549 x4_1 x5_1 x44_5 ((rd_T28 t549 x5_1).f0) ((rd_T28 t549 x5_1).f1) ((rd_T28 t549 x5_1).f2) ((rd_T28 t549 x5_1).f3) = some r) ∧ Aside0 (kq ≤ k1) ∧ Aside0 (Kd.R k28 28 wc w.heap.size (fun k_ => k_ ≠ gb553) (.slice (some ad552) t549.length co7) t549) ∧ Aside0 (wc.heap[gb553]? = some (.cells #[.int .i32 ((rd_T28 t549 x5_1).f0), .int .i64 ((rd_T28 t549 x5_1).f1), .int .i64 ((rd_T28 t549 x5_1).f2), .bool ((rd_T28 t549 x5_1).f3)] 28 (0, 0))) ∧ Aside0 (Below w.heap.size w wc))
          case first =>
            have H := HC6.out
            clear HC6
            by_cases c10 : ((rd_T28 t549 x5_1).f1) = x4_1
            · rw [if_pos c10] at H
              have c10b0 : (((rd_T28 t549 x5_1).f1) == x4_1) = true := beq_iff_eq.mpr c10
              have c10b1 : (((rd_T28 t549 x5_1).f1) != x4_1) = false := bne_eq_false_iff_eq.mpr c10
              clear c10
              (first | rw [c10b0] | (simp only [i64_w, i32_w]; rw [c10b0]) | skip)
              by_cases c11 : ((rd_T28 t549 x5_1).f2) < 1
              · rw [if_pos c11] at H
                have c11b0 : decide (((rd_T28 t549 x5_1).f2) < 1) = true := decide_eq_true c11
                clear c11
                have H' := Aside0.mk H
                clear H
                have hcz12_0 : w8.cell? ⟨gb553, 0, none⟩ = some (.int .i32 0) := (blk_cell BK553.out 0).trans rfl
                have hcz12_1 : w8.cell? ⟨gb553, 1, none⟩ = some (.int .i64 0) := (blk_cell BK553.out 1).trans rfl
                have hcz12_2 : w8.cell? ⟨gb553, 2, none⟩ = some (.int .i64 0) := (blk_cell BK553.out 2).trans rfl
                have hcz12_3 : w8.cell? ⟨gb553, 3, none⟩ = some (.bool false) := (blk_cell BK553.out 3).trans rfl
                have hfz12_0 := blk_frozen BK553.out 0
                have hfz12_1 := blk_frozen BK553.out 1
                have hfz12_2 := blk_frozen BK553.out 2
                have hfz12_3 := blk_frozen BK553.out 3
                go_wp2
                repeat (go_quiet (fail); try go_wp2)
                go_meet
                case rel => exact ⟨_, (true), (by first | rfl | (simp; done) | (simp [*]; done)), H', ⟨by have := HK1.out; first | omega | exact Nat.le_refl _⟩, ⟨by (with_reducible repeat (first | apply Kd.R_alloc | apply Kd.R_drewN | apply Kd.R_drew)); exact Kd.R_mono (Kd.R_far (p := ⟨gb553, 3, none⟩) (Kd.R_far (p := ⟨gb553, 2, none⟩) (Kd.R_far (p := ⟨gb553, 1, none⟩) (Kd.R_far (p := ⟨gb553, 0, none⟩) (Kd.R_mono HO_3.out (fun k_ hk => (⟨hk, hk.2⟩ : _ ∧ k_ ≠ gb553))) (fun _ hk => hk.2) (.int .i32 ((rd_T28 t549 x5_1).f0))) (fun _ hk => hk.2) (.int .i64 ((rd_T28 t549 x5_1).f1))) (fun _ hk => hk.2) (.int .i64 ((rd_T28 t549 x5_1).f2))) (fun _ hk => hk.2) (.bool ((rd_T28 t549 x5_1).f3))) (fun _ hk => hk.1.2)⟩, ⟨by (with_reducible repeat (first | refine blk_drewN ?_ _ | refine blk_drew ?_ | refine blk_alloc ?_ _)); refine blk_put (cs := #[.int .i32 ((rd_T28 t549 x5_1).f0), .int .i64 ((rd_T28 t549 x5_1).f1), .int .i64 ((rd_T28 t549 x5_1).f2), .bool false]) ?_ 3 _ rfl; (with_reducible repeat (first | refine blk_drewN ?_ _ | refine blk_drew ?_ | refine blk_alloc ?_ _)); refine blk_put (cs := #[.int .i32 ((rd_T28 t549 x5_1).f0), .int .i64 ((rd_T28 t549 x5_1).f1), .int .i64 0, .bool false]) ?_ 2 _ rfl; (with_reducible repeat (first | refine blk_drewN ?_ _ | refine blk_drew ?_ | refine blk_alloc ?_ _)); refine blk_put (cs := #[.int .i32 ((rd_T28 t549 x5_1).f0), .int .i64 0, .int .i64 0, .bool false]) ?_ 1 _ rfl; (with_reducible repeat (first | refine blk_drewN ?_ _ | refine blk_drew ?_ | refine blk_alloc ?_ _)); refine blk_put (cs := #[.int .i32 0, .int .i64 0, .int .i64 0, .bool false]) ?_ 0 _ rfl; (with_reducible repeat (first | refine blk_drewN ?_ _ | refine blk_drew ?_ | refine blk_alloc ?_ _)); exact BK553.out⟩, ⟨by repeat (first | (with_reducible first | exact HB.out | apply below_alloc | apply pw_below_drewN | apply below_drew1 | refine below_set ?_ GE553.out) | exact HB.out)⟩⟩
              · rw [if_neg c11] at H
                have c11b0 : decide (((rd_T28 t549 x5_1).f2) < 1) = false := decide_eq_false c11
                clear c11
                by_cases c13 : ((rd_T28 t549 x5_1).f2) > 4
                · rw [if_pos c13] at H
                  have c13b0 : decide (4 < ((rd_T28 t549 x5_1).f2)) = true := decide_eq_true c13
                  clear c13
                  have H' := Aside0.mk H
                  clear H
                  have hcz14_0 : w8.cell? ⟨gb553, 0, none⟩ = some (.int .i32 0) := (blk_cell BK553.out 0).trans rfl
                  have hcz14_1 : w8.cell? ⟨gb553, 1, none⟩ = some (.int .i64 0) := (blk_cell BK553.out 1).trans rfl
                  have hcz14_2 : w8.cell? ⟨gb553, 2, none⟩ = some (.int .i64 0) := (blk_cell BK553.out 2).trans rfl
                  have hcz14_3 : w8.cell? ⟨gb553, 3, none⟩ = some (.bool false) := (blk_cell BK553.out 3).trans rfl
                  have hfz14_0 := blk_frozen BK553.out 0
                  have hfz14_1 := blk_frozen BK553.out 1
                  have hfz14_2 := blk_frozen BK553.out 2
                  have hfz14_3 := blk_frozen BK553.out 3
                  go_wp2
                  repeat (go_quiet (fail); try go_wp2)
                  go_meet
                  case rel => exact ⟨_, (true), (by first | rfl | (simp; done) | (simp [*]; done)), H', ⟨by have := HK1.out; first | omega | exact Nat.le_refl _⟩, ⟨by (with_reducible repeat (first | apply Kd.R_alloc | apply Kd.R_drewN | apply Kd.R_drew)); exact Kd.R_mono (Kd.R_far (p := ⟨gb553, 3, none⟩) (Kd.R_far (p := ⟨gb553, 2, none⟩) (Kd.R_far (p := ⟨gb553, 1, none⟩) (Kd.R_far (p := ⟨gb553, 0, none⟩) (Kd.R_mono HO_3.out (fun k_ hk => (⟨hk, hk.2⟩ : _ ∧ k_ ≠ gb553))) (fun _ hk => hk.2) (.int .i32 ((rd_T28 t549 x5_1).f0))) (fun _ hk => hk.2) (.int .i64 ((rd_T28 t549 x5_1).f1))) (fun _ hk => hk.2) (.int .i64 ((rd_T28 t549 x5_1).f2))) (fun _ hk => hk.2) (.bool ((rd_T28 t549 x5_1).f3))) (fun _ hk => hk.1.2)⟩, ⟨by (with_reducible repeat (first | refine blk_drewN ?_ _ | refine blk_drew ?_ | refine blk_alloc ?_ _)); refine blk_put (cs := #[.int .i32 ((rd_T28 t549 x5_1).f0), .int .i64 ((rd_T28 t549 x5_1).f1), .int .i64 ((rd_T28 t549 x5_1).f2), .bool false]) ?_ 3 _ rfl; (with_reducible repeat (first | refine blk_drewN ?_ _ | refine blk_drew ?_ | refine blk_alloc ?_ _)); refine blk_put (cs := #[.int .i32 ((rd_T28 t549 x5_1).f0), .int .i64 ((rd_T28 t549 x5_1).f1), .int .i64 0, .bool false]) ?_ 2 _ rfl; (with_reducible repeat (first | refine blk_drewN ?_ _ | refine blk_drew ?_ | refine blk_alloc ?_ _)); refine blk_put (cs := #[.int .i32 ((rd_T28 t549 x5_1).f0), .int .i64 0, .int .i64 0, .bool false]) ?_ 1 _ rfl; (with_reducible repeat (first | refine blk_drewN ?_ _ | refine blk_drew ?_ | refine blk_alloc ?_ _)); refine blk_put (cs := #[.int .i32 0, .int .i64 0, .int .i64 0, .bool false]) ?_ 0 _ rfl; (with_reducible repeat (first | refine blk_drewN ?_ _ | refine blk_drew ?_ | refine blk_alloc ?_ _)); exact BK553.out⟩, ⟨by repeat (first | (with_reducible first | exact HB.out | apply below_alloc | apply pw_below_drewN | apply below_drew1 | refine below_set ?_ GE553.out) | exact HB.out)⟩⟩
                · rw [if_neg c13] at H
                  have c13b0 : decide (4 < ((rd_T28 t549 x5_1).f2)) = false := decide_eq_false c13
                  clear c13
                  have H' := Aside0.mk H
                  clear H
                  have hcz15_0 : w8.cell? ⟨gb553, 0, none⟩ = some (.int .i32 0) := (blk_cell BK553.out 0).trans rfl
                  have hcz15_1 : w8.cell? ⟨gb553, 1, none⟩ = some (.int .i64 0) := (blk_cell BK553.out 1).trans rfl
                  have hcz15_2 : w8.cell? ⟨gb553, 2, none⟩ = some (.int .i64 0) := (blk_cell BK553.out 2).trans rfl
                  have hcz15_3 : w8.cell? ⟨gb553, 3, none⟩ = some (.bool false) := (blk_cell BK553.out 3).trans rfl
                  have hfz15_0 := blk_frozen BK553.out 0
                  have hfz15_1 := blk_frozen BK553.out 1
                  have hfz15_2 := blk_frozen BK553.out 2
                  have hfz15_3 := blk_frozen BK553.out 3
                  go_wp2
                  repeat (go_quiet (fail); try go_wp2)
                  go_meet
                  case rel => exact ⟨_, (decide ((wrap64 (((rd_T28 t549 x5_1).f1) + ((rd_T28 t549 x5_1).f2))) > (a0.size : Int))), (by first | rfl | (simp; done) | (simp [*]; done)), H', ⟨by have := HK1.out; first | omega | exact Nat.le_refl _⟩, ⟨by (with_reducible repeat (first | apply Kd.R_alloc | apply Kd.R_drewN | apply Kd.R_drew)); exact Kd.R_mono (Kd.R_far (p := ⟨gb553, 3, none⟩) (Kd.R_far (p := ⟨gb553, 2, none⟩) (Kd.R_far (p := ⟨gb553, 1, none⟩) (Kd.R_far (p := ⟨gb553, 0, none⟩) (Kd.R_mono HO_3.out (fun k_ hk => (⟨hk, hk.2⟩ : _ ∧ k_ ≠ gb553))) (fun _ hk => hk.2) (.int .i32 ((rd_T28 t549 x5_1).f0))) (fun _ hk => hk.2) (.int .i64 ((rd_T28 t549 x5_1).f1))) (fun _ hk => hk.2) (.int .i64 ((rd_T28 t549 x5_1).f2))) (fun _ hk => hk.2) (.bool ((rd_T28 t549 x5_1).f3))) (fun _ hk => hk.1.2)⟩, ⟨by (with_reducible repeat (first | refine blk_drewN ?_ _ | refine blk_drew ?_ | refine blk_alloc ?_ _)); refine blk_put (cs := #[.int .i32 ((rd_T28 t549 x5_1).f0), .int .i64 ((rd_T28 t549 x5_1).f1), .int .i64 ((rd_T28 t549 x5_1).f2), .bool false]) ?_ 3 _ rfl; (with_reducible repeat (first | refine blk_drewN ?_ _ | refine blk_drew ?_ | refine blk_alloc ?_ _)); refine blk_put (cs := #[.int .i32 ((rd_T28 t549 x5_1).f0), .int .i64 ((rd_T28 t549 x5_1).f1), .int .i64 0, .bool false]) ?_ 2 _ rfl; (with_reducible repeat (first | refine blk_drewN ?_ _ | refine blk_drew ?_ | refine blk_alloc ?_ _)); refine blk_put (cs := #[.int .i32 ((rd_T28 t549 x5_1).f0), .int .i64 0, .int .i64 0, .bool false]) ?_ 1 _ rfl; (with_reducible repeat (first | refine blk_drewN ?_ _ | refine blk_drew ?_ | refine blk_alloc ?_ _)); refine blk_put (cs := #[.int .i32 0, .int .i64 0, .int .i64 0, .bool false]) ?_ 0 _ rfl; (with_reducible repeat (first | refine blk_drewN ?_ _ | refine blk_drew ?_ | refine blk_alloc ?_ _)); exact BK553.out⟩, ⟨by repeat (first | (with_reducible first | exact HB.out | apply below_alloc | apply pw_below_drewN | apply below_drew1 | refine below_set ?_ GE553.out) | exact HB.out)⟩⟩
            · rw [if_neg c10] at H
              have c10b0 : (((rd_T28 t549 x5_1).f1) == x4_1) = false := beq_eq_false_iff_ne.mpr c10
              have c10b1 : (((rd_T28 t549 x5_1).f1) != x4_1) = true := bne_iff_ne.mpr c10
              (first | rw [c10b0] | (simp only [i64_w, i32_w]; rw [c10b0]) | skip)
              have H' := Aside0.mk H
              clear H
              have hcz16_0 : w8.cell? ⟨gb553, 0, none⟩ = some (.int .i32 0) := (blk_cell BK553.out 0).trans rfl
              have hcz16_1 : w8.cell? ⟨gb553, 1, none⟩ = some (.int .i64 0) := (blk_cell BK553.out 1).trans rfl
              have hcz16_2 : w8.cell? ⟨gb553, 2, none⟩ = some (.int .i64 0) := (blk_cell BK553.out 2).trans rfl
              have hcz16_3 : w8.cell? ⟨gb553, 3, none⟩ = some (.bool false) := (blk_cell BK553.out 3).trans rfl
              have hfz16_0 := blk_frozen BK553.out 0
              have hfz16_1 := blk_frozen BK553.out 1
              have hfz16_2 := blk_frozen BK553.out 2
              have hfz16_3 := blk_frozen BK553.out 3
              go_wp2
              repeat (go_quiet (fail); try go_wp2)
              go_meet
              case rel => exact ⟨_, (true), (by first | rfl | (simp; done) | (simp [*]; done)), H', ⟨by have := HK1.out; first | omega | exact Nat.le_refl _⟩, ⟨by (with_reducible repeat (first | apply Kd.R_alloc | apply Kd.R_drewN | apply Kd.R_drew)); exact Kd.R_mono (Kd.R_far (p := ⟨gb553, 3, none⟩) (Kd.R_far (p := ⟨gb553, 2, none⟩) (Kd.R_far (p := ⟨gb553, 1, none⟩) (Kd.R_far (p := ⟨gb553, 0, none⟩) (Kd.R_mono HO_3.out (fun k_ hk => (⟨hk, hk.2⟩ : _ ∧ k_ ≠ gb553))) (fun _ hk => hk.2) (.int .i32 ((rd_T28 t549 x5_1).f0))) (fun _ hk => hk.2) (.int .i64 ((rd_T28 t549 x5_1).f1))) (fun _ hk => hk.2) (.int .i64 ((rd_T28 t549 x5_1).f2))) (fun _ hk => hk.2) (.bool ((rd_T28 t549 x5_1).f3))) (fun _ hk => hk.1.2)⟩, ⟨by (with_reducible repeat (first | refine blk_drewN ?_ _ | refine blk_drew ?_ | refine blk_alloc ?_ _)); refine blk_put (cs := #[.int .i32 ((rd_T28 t549 x5_1).f0), .int .i64 ((rd_T28 t549 x5_1).f1), .int .i64 ((rd_T28 t549 x5_1).f2), .bool false]) ?_ 3 _ rfl; (with_reducible repeat (first | refine blk_drewN ?_ _ | refine blk_drew ?_ | refine blk_alloc ?_ _)); refine blk_put (cs := #[.int .i32 ((rd_T28 t549 x5_1).f0), .int .i64 ((rd_T28 t549 x5_1).f1), .int .i64 0, .bool false]) ?_ 2 _ rfl; (with_reducible repeat (first | refine blk_drewN ?_ _ | refine blk_drew ?_ | refine blk_alloc ?_ _)); refine blk_put (cs := #[.int .i32 ((rd_T28 t549 x5_1).f0), .int .i64 0, .int .i64 0, .bool false]) ?_ 1 _ rfl; (with_reducible repeat (first | refine blk_drewN ?_ _ | refine blk_drew ?_ | refine blk_alloc ?_ _)); refine blk_put (cs := #[.int .i32 0, .int .i64 0, .int .i64 0, .bool false]) ?_ 0 _ rfl; (with_reducible repeat (first | refine blk_drewN ?_ _ | refine blk_drew ?_ | refine blk_alloc ?_ _)); exact BK553.out⟩, ⟨by repeat (first | (with_reducible first | exact HB.out | apply below_alloc | apply pw_below_drewN | apply below_drew1 | refine below_set ?_ GE553.out) | exact HB.out)⟩⟩
          case rest =>
            clear HC6
            try clear c1
            try clear p2
            try clear c4
            try clear c4b0
            try clear c5
            try clear c5b0
            try clear p5
            try clear q5
            try clear hx5
            try clear c6
            try clear p6
            try clear c10
            try clear c10b0
            try clear c10b1
            try clear c11
            try clear c11b0
            try clear c13
            try clear c13b0
            try clear hcz12_0
            try clear hcz12_1
            try clear hcz12_2
            try clear hcz12_3
            try clear hcz14_0
            try clear hcz14_1
            try clear hcz14_2
            try clear hcz14_3
            try clear hcz15_0
            try clear hcz15_1
            try clear hcz15_2
            try clear hcz15_3
            try clear hcz16_0
            try clear hcz16_1
            try clear hcz16_2
            try clear hcz16_3
            try clear hcz9_0
            try clear hcz9_1
            try clear hcz9_2
            try clear hcz9_3
            try clear hfz12_0
            try clear hfz12_1
            try clear hfz12_2
            try clear hfz12_3
            try clear hfz14_0
            try clear hfz14_1
            try clear hfz14_2
            try clear hfz14_3
            try clear hfz15_0
            try clear hfz15_1
            try clear hfz15_2
            try clear hfz15_3
            try clear hfz16_0
            try clear hfz16_1
            try clear hfz16_2
            try clear hfz16_3
            try clear hfz9_0
            try clear hfz9_1
            try clear hfz9_2
            try clear hfz9_3
            try clear hx552_0
            try clear hx552_1
            try clear hx552_2
            try clear hx552_3
            try clear p2
            try clear p552
            try clear q552
            obtain ⟨kq, x44_5, rfl, HA, HJ5, HO_3, BK553, HB⟩ := hcut
            cases kq with
            | zero => exact absurd HA.out (by simp [shardlaw1_TextWhole.j1])
            | succ kj5 =>
              have H := HA.out
              clear HA
              simp only [shardlaw1_TextWhole.j1] at H
              by_cases c17 : x44_5 = true
              · subst c17
                have H1 : (some false) = some r := by rw [if_pos rfl] at H; exact H
                clear H
                have H := H1
                clear H1
                obtain rfl := Option.some.inj H
                go_wp2
                repeat (go_quiet (fail); try go_wp2)
                go_ret
                exact ⟨by first | rfl | (simp [errW_none, errW_some] <;> rfl) | (simp [*, errW_none, errW_some] <;> rfl), by repeat (first | (with_reducible first | exact HB.out | apply below_alloc | apply pw_below_drewN | apply below_drew1 | refine below_set ?_ GE553.out) | exact HB.out)⟩
              · replace c17 := Bool.eq_false_iff.mpr c17
                subst c17
                have H1 : ((text_Encode.f kj5 ((rd_T28 t549 x5_1).f0)).bind fun bt554 => (if ((rd_T28 t549 x5_1).f3) = true then (if ((rd_T28 t549 x5_1).f2) = 1 then (if ((rd_T28 t549 x5_1).f0) < 128 then (shardlaw1_TextWhole.j2 kj5 a0 t549 (wrap64 (x4_1 + ((rd_T28 t549 x5_1).f2))) x5_1 true) else (if 0 ≤ ((rd_T28 t549 x5_1).f1) then (if ((rd_T28 t549 x5_1).f1) < (a0.size : Int) then (if ((((rd_T28 t549 x5_1).f0)) % 256) = (bt a0 ((rd_T28 t549 x5_1).f1)) then (shardlaw1_TextWhole.j2 kj5 a0 t549 (wrap64 (x4_1 + ((rd_T28 t549 x5_1).f2))) x5_1 (decide (((rd_T28 t549 x5_1).f0) > 255))) else (shardlaw1_TextWhole.j2 kj5 a0 t549 (wrap64 (x4_1 + ((rd_T28 t549 x5_1).f2))) x5_1 true)) else (none)) else (none))) else (shardlaw1_TextWhole.j2 kj5 a0 t549 (wrap64 (x4_1 + ((rd_T28 t549 x5_1).f2))) x5_1 true)) else (if bt554.2 = 0 then (if 0 ≤ ((rd_T28 t549 x5_1).f1) then (if ((rd_T28 t549 x5_1).f1) ≤ (wrap64 (x4_1 + ((rd_T28 t549 x5_1).f2))) then (if (wrap64 (x4_1 + ((rd_T28 t549 x5_1).f2))) ≤ (a0.size : Int) then (if bt554.1.toList = (a0.extract (((rd_T28 t549 x5_1).f1) : Int).toNat ((wrap64 (x4_1 + ((rd_T28 t549 x5_1).f2))) : Int).toNat).toList then (shardlaw1_TextWhole.l0 kj5 a0 t549 (wrap64 (x4_1 + ((rd_T28 t549 x5_1).f2))) (wrap64 (x5_1 + 1))) else (some false)) else (none)) else (none)) else (none)) else (some false)))) = some r := by rw [if_neg (show ¬ (false = true) by decide)] at H; exact H
                clear H
                have H := H1
                clear H1
                replace H := Option.bind_eq_some_iff.mp H
                obtain ⟨⟨t554, t555⟩, A180, H⟩ := H
                replace H : (if ((rd_T28 t549 x5_1).f3) = true then (if ((rd_T28 t549 x5_1).f2) = 1 then (if ((rd_T28 t549 x5_1).f0) < 128 then (shardlaw1_TextWhole.j2 kj5 a0 t549 (wrap64 (x4_1 + ((rd_T28 t549 x5_1).f2))) x5_1 true) else (if 0 ≤ ((rd_T28 t549 x5_1).f1) then (if ((rd_T28 t549 x5_1).f1) < (a0.size : Int) then (if ((((rd_T28 t549 x5_1).f0)) % 256) = (bt a0 ((rd_T28 t549 x5_1).f1)) then (shardlaw1_TextWhole.j2 kj5 a0 t549 (wrap64 (x4_1 + ((rd_T28 t549 x5_1).f2))) x5_1 (decide (((rd_T28 t549 x5_1).f0) > 255))) else (shardlaw1_TextWhole.j2 kj5 a0 t549 (wrap64 (x4_1 + ((rd_T28 t549 x5_1).f2))) x5_1 true)) else (none)) else (none))) else (shardlaw1_TextWhole.j2 kj5 a0 t549 (wrap64 (x4_1 + ((rd_T28 t549 x5_1).f2))) x5_1 true)) else (if t555 = 0 then (if 0 ≤ ((rd_T28 t549 x5_1).f1) then (if ((rd_T28 t549 x5_1).f1) ≤ (wrap64 (x4_1 + ((rd_T28 t549 x5_1).f2))) then (if (wrap64 (x4_1 + ((rd_T28 t549 x5_1).f2))) ≤ (a0.size : Int) then (if t554.toList = (a0.extract (((rd_T28 t549 x5_1).f1) : Int).toNat ((wrap64 (x4_1 + ((rd_T28 t549 x5_1).f2))) : Int).toNat).toList then (shardlaw1_TextWhole.l0 kj5 a0 t549 (wrap64 (x4_1 + ((rd_T28 t549 x5_1).f2))) (wrap64 (x5_1 + 1))) else (some false)) else (none)) else (none)) else (none)) else (some false))) = some r := H
                have A18 := Aside0.mk A180
                clear A180
                by_cases c19 : ((rd_T28 t549 x5_1).f3) = true
                · rw [if_pos c19] at H
                  have c19b0 : ((rd_T28 t549 x5_1).f3) = true := c19
                  clear c19
                  have HC20 := Aside0.mk H
                  clear H
                  have hcz21_0 : wc.cell? ⟨gb553, 0, none⟩ = some (.int .i32 ((rd_T28 t549 x5_1).f0)) := (blk_cell BK553.out 0).trans rfl
                  have hcz21_1 : wc.cell? ⟨gb553, 1, none⟩ = some (.int .i64 ((rd_T28 t549 x5_1).f1)) := (blk_cell BK553.out 1).trans rfl
                  have hcz21_2 : wc.cell? ⟨gb553, 2, none⟩ = some (.int .i64 ((rd_T28 t549 x5_1).f2)) := (blk_cell BK553.out 2).trans rfl
                  have hcz21_3 : wc.cell? ⟨gb553, 3, none⟩ = some (.bool ((rd_T28 t549 x5_1).f3)) := (blk_cell BK553.out 3).trans rfl
                  have hfz21_0 := blk_frozen BK553.out 0
                  have hfz21_1 := blk_frozen BK553.out 1
                  have hfz21_2 := blk_frozen BK553.out 2
                  have hfz21_3 := blk_frozen BK553.out 3
                  go_upto_region 12 with (first | (go_at_call 17; (with_reducible refine (text_Encode.calls kj5 ((rd_T28 t549 x5_1).f0) t554 t555 _ A18.out).mono ?_); rintro e w' ⟨rfl, ⟨nd, rfl⟩⟩; (try first | exact ⟨rfl, _, World.drewN_drewN _ _ _⟩ | exact ⟨rfl, _, Eq.trans (World.drewN_drewN _ _ _) (congrArg (World.drewN _) (Nat.add_assoc _ _ _))⟩)))
                  repeat (go_quiet (first | (go_at_call 17; (with_reducible refine (text_Encode.calls kj5 ((rd_T28 t549 x5_1).f0) t554 t555 _ A18.out).mono ?_); rintro e w' ⟨rfl, ⟨nd, rfl⟩⟩; (try first | exact ⟨rfl, _, World.drewN_drewN _ _ _⟩ | exact ⟨rfl, _, Eq.trans (World.drewN_drewN _ _ _) (congrArg (World.drewN _) (Nat.add_assoc _ _ _))⟩))); go_upto_region 12 with (first | (go_at_call 17; (with_reducible refine (text_Encode.calls kj5 ((rd_T28 t549 x5_1).f0) t554 t555 _ A18.out).mono ?_); rintro e w' ⟨rfl, ⟨nd, rfl⟩⟩; (try first | exact ⟨rfl, _, World.drewN_drewN _ _ _⟩ | exact ⟨rfl, _, Eq.trans (World.drewN_drewN _ _ _) (congrArg (World.drewN _) (Nat.add_assoc _ _ _))⟩))))
                  (try simp only [Act.put, List.setIfInBounds_toArray, List.set_cons_zero, List.set_cons_succ])
                  go_cut [79] (fun v79 wc => ∃ (kq : Nat) (x79_19 : Bool), v79 = .bool x79_19 ∧ Aside0 (shardlaw1_TextWhole.j2 kq a0 t549 (wrap64 (x4_1 + ((rd_T28 t549 x5_1).f2))) x5_1 x79_19 = some r) ∧ Aside0 (kq ≤ kj5) ∧ Aside0 (Kd.R k28 28 wc w.heap.size (fun k_ => k_ ≠ gb553) (.slice (some ad552) t549.length co7) t549) ∧ Aside0 (wc.heap[gb553]? = some (.cells #[.int .i32 ((rd_T28 t549 x5_1).f0), .int .i64 ((rd_T28 t549 x5_1).f1), .int .i64 ((rd_T28 t549 x5_1).f2), .bool ((rd_T28 t549 x5_1).f3)] 28 (0, 0))) ∧ Aside0 (Below w.heap.size w wc))
                  case first =>
                    have H := HC20.out
                    clear HC20
                    by_cases c22 : ((rd_T28 t549 x5_1).f2) = 1
                    · rw [if_pos c22] at H
                      have c22b0 : (((rd_T28 t549 x5_1).f2) == 1) = true := beq_iff_eq.mpr c22
                      have c22b1 : (((rd_T28 t549 x5_1).f2) != 1) = false := bne_eq_false_iff_eq.mpr c22
                      clear c22
                      (first | rw [c22b0] | (simp only [i64_w, i32_w]; rw [c22b0]) | skip)
                      by_cases c23 : ((rd_T28 t549 x5_1).f0) < 128
                      · rw [if_pos c23] at H
                        have c23b0 : decide (((rd_T28 t549 x5_1).f0) < 128) = true := decide_eq_true c23
                        clear c23
                        have H' := Aside0.mk H
                        clear H
                        have hcz24_0 : wc.cell? ⟨gb553, 0, none⟩ = some (.int .i32 ((rd_T28 t549 x5_1).f0)) := (blk_cell BK553.out 0).trans rfl
                        have hcz24_1 : wc.cell? ⟨gb553, 1, none⟩ = some (.int .i64 ((rd_T28 t549 x5_1).f1)) := (blk_cell BK553.out 1).trans rfl
                        have hcz24_2 : wc.cell? ⟨gb553, 2, none⟩ = some (.int .i64 ((rd_T28 t549 x5_1).f2)) := (blk_cell BK553.out 2).trans rfl
                        have hcz24_3 : wc.cell? ⟨gb553, 3, none⟩ = some (.bool ((rd_T28 t549 x5_1).f3)) := (blk_cell BK553.out 3).trans rfl
                        have hfz24_0 := blk_frozen BK553.out 0
                        have hfz24_1 := blk_frozen BK553.out 1
                        have hfz24_2 := blk_frozen BK553.out 2
                        have hfz24_3 := blk_frozen BK553.out 3
                        go_wp2
                        repeat (go_quiet (fail); try go_wp2)
                        go_meet
                        case rel => exact ⟨_, (true), (by first | rfl | (simp; done) | (simp [*]; done)), H', ⟨by have := HK1.out; have := HJ5.out; first | omega | exact Nat.le_refl _⟩, ⟨by (with_reducible repeat (first | apply Kd.R_alloc | apply Kd.R_drewN | apply Kd.R_drew)); exact HO_3.out⟩, ⟨by (with_reducible repeat (first | refine blk_drewN ?_ _ | refine blk_drew ?_ | refine blk_alloc ?_ _)); exact BK553.out⟩, ⟨by repeat (first | (with_reducible first | exact HB.out | apply below_alloc | apply pw_below_drewN | apply below_drew1 | refine below_set ?_ GE553.out) | exact HB.out)⟩⟩
                      · rw [if_neg c23] at H
                        have c23b0 : decide (((rd_T28 t549 x5_1).f0) < 128) = false := decide_eq_false c23
                        clear c23
                        by_cases c25 : 0 ≤ ((rd_T28 t549 x5_1).f1)
                        · rw [if_pos c25] at H
                          have c25b0 : decide (0 ≤ ((rd_T28 t549 x5_1).f1)) = true := decide_eq_true c25
                          clear c25
                          by_cases c26 : ((rd_T28 t549 x5_1).f1) < (a0.size : Int)
                          · rw [if_pos c26] at H
                            have c26b0 : decide (((rd_T28 t549 x5_1).f1) < (a0.size : Int)) = true := decide_eq_true c26
                            clear c26
                            by_cases c28 : ((((rd_T28 t549 x5_1).f0)) % 256) = (bt a0 ((rd_T28 t549 x5_1).f1))
                            · rw [if_pos c28] at H
                              have c28b0 : (((((rd_T28 t549 x5_1).f0)) % 256) == (bt a0 ((rd_T28 t549 x5_1).f1))) = true := beq_iff_eq.mpr c28
                              have c28b1 : (((((rd_T28 t549 x5_1).f0)) % 256) != (bt a0 ((rd_T28 t549 x5_1).f1))) = false := bne_eq_false_iff_eq.mpr c28
                              clear c28
                              have H' := Aside0.mk H
                              clear H
                              have hcz29_0 : wc.cell? ⟨gb553, 0, none⟩ = some (.int .i32 ((rd_T28 t549 x5_1).f0)) := (blk_cell BK553.out 0).trans rfl
                              have hcz29_1 : wc.cell? ⟨gb553, 1, none⟩ = some (.int .i64 ((rd_T28 t549 x5_1).f1)) := (blk_cell BK553.out 1).trans rfl
                              have hcz29_2 : wc.cell? ⟨gb553, 2, none⟩ = some (.int .i64 ((rd_T28 t549 x5_1).f2)) := (blk_cell BK553.out 2).trans rfl
                              have hcz29_3 : wc.cell? ⟨gb553, 3, none⟩ = some (.bool ((rd_T28 t549 x5_1).f3)) := (blk_cell BK553.out 3).trans rfl
                              have hfz29_0 := blk_frozen BK553.out 0
                              have hfz29_1 := blk_frozen BK553.out 1
                              have hfz29_2 := blk_frozen BK553.out 2
                              have hfz29_3 := blk_frozen BK553.out 3
                              have p27 : 0 ≤ (((rd_T28 t549 x5_1).f1) : Int) := of_decide_eq_true (by first | (with_reducible assumption) | assumption)
                              have q27 : ((rd_T28 t549 x5_1).f1) < (a0.size : Int) := of_decide_eq_true (by first | (with_reducible assumption) | assumption)
                              have hx27 := bt_at a0 ((rd_T28 t549 x5_1).f1)
                              replace p27 := eq_true p27
                              replace q27 := eq_true q27
                              go_wp2
                              repeat (go_quiet (fail); try go_wp2)
                              go_meet
                              case rel => exact ⟨_, (decide (((rd_T28 t549 x5_1).f0) > 255)), (by first | rfl | (simp; done) | (simp [*]; done)), H', ⟨by have := HK1.out; have := HJ5.out; first | omega | exact Nat.le_refl _⟩, ⟨by (with_reducible repeat (first | apply Kd.R_alloc | apply Kd.R_drewN | apply Kd.R_drew)); exact HO_3.out⟩, ⟨by (with_reducible repeat (first | refine blk_drewN ?_ _ | refine blk_drew ?_ | refine blk_alloc ?_ _)); exact BK553.out⟩, ⟨by repeat (first | (with_reducible first | exact HB.out | apply below_alloc | apply pw_below_drewN | apply below_drew1 | refine below_set ?_ GE553.out) | exact HB.out)⟩⟩
                            · rw [if_neg c28] at H
                              have c28b0 : (((((rd_T28 t549 x5_1).f0)) % 256) == (bt a0 ((rd_T28 t549 x5_1).f1))) = false := beq_eq_false_iff_ne.mpr c28
                              have c28b1 : (((((rd_T28 t549 x5_1).f0)) % 256) != (bt a0 ((rd_T28 t549 x5_1).f1))) = true := bne_iff_ne.mpr c28
                              have H' := Aside0.mk H
                              clear H
                              have hcz30_0 : wc.cell? ⟨gb553, 0, none⟩ = some (.int .i32 ((rd_T28 t549 x5_1).f0)) := (blk_cell BK553.out 0).trans rfl
                              have hcz30_1 : wc.cell? ⟨gb553, 1, none⟩ = some (.int .i64 ((rd_T28 t549 x5_1).f1)) := (blk_cell BK553.out 1).trans rfl
                              have hcz30_2 : wc.cell? ⟨gb553, 2, none⟩ = some (.int .i64 ((rd_T28 t549 x5_1).f2)) := (blk_cell BK553.out 2).trans rfl
                              have hcz30_3 : wc.cell? ⟨gb553, 3, none⟩ = some (.bool ((rd_T28 t549 x5_1).f3)) := (blk_cell BK553.out 3).trans rfl
                              have hfz30_0 := blk_frozen BK553.out 0
                              have hfz30_1 := blk_frozen BK553.out 1
                              have hfz30_2 := blk_frozen BK553.out 2
                              have hfz30_3 := blk_frozen BK553.out 3
                              have p27 : 0 ≤ (((rd_T28 t549 x5_1).f1) : Int) := of_decide_eq_true (by first | (with_reducible assumption) | assumption)
                              have q27 : ((rd_T28 t549 x5_1).f1) < (a0.size : Int) := of_decide_eq_true (by first | (with_reducible assumption) | assumption)
                              have hx27 := bt_at a0 ((rd_T28 t549 x5_1).f1)
                              replace p27 := eq_true p27
                              replace q27 := eq_true q27
                              go_wp2
                              repeat (go_quiet (fail); try go_wp2)
                              go_meet
                              case rel => exact ⟨_, (true), (by first | rfl | (simp; done) | (simp [*]; done)), H', ⟨by have := HK1.out; have := HJ5.out; first | omega | exact Nat.le_refl _⟩, ⟨by (with_reducible repeat (first | apply Kd.R_alloc | apply Kd.R_drewN | apply Kd.R_drew)); exact HO_3.out⟩, ⟨by (with_reducible repeat (first | refine blk_drewN ?_ _ | refine blk_drew ?_ | refine blk_alloc ?_ _)); exact BK553.out⟩, ⟨by repeat (first | (with_reducible first | exact HB.out | apply below_alloc | apply pw_below_drewN | apply below_drew1 | refine below_set ?_ GE553.out) | exact HB.out)⟩⟩
                          · rw [if_neg c26] at H
                            exact absurd H (by simp)
                        · rw [if_neg c25] at H
                          exact absurd H (by simp)
                    · rw [if_neg c22] at H
                      have c22b0 : (((rd_T28 t549 x5_1).f2) == 1) = false := beq_eq_false_iff_ne.mpr c22
                      have c22b1 : (((rd_T28 t549 x5_1).f2) != 1) = true := bne_iff_ne.mpr c22
                      (first | rw [c22b0] | (simp only [i64_w, i32_w]; rw [c22b0]) | skip)
                      have H' := Aside0.mk H
                      clear H
                      have hcz31_0 : wc.cell? ⟨gb553, 0, none⟩ = some (.int .i32 ((rd_T28 t549 x5_1).f0)) := (blk_cell BK553.out 0).trans rfl
                      have hcz31_1 : wc.cell? ⟨gb553, 1, none⟩ = some (.int .i64 ((rd_T28 t549 x5_1).f1)) := (blk_cell BK553.out 1).trans rfl
                      have hcz31_2 : wc.cell? ⟨gb553, 2, none⟩ = some (.int .i64 ((rd_T28 t549 x5_1).f2)) := (blk_cell BK553.out 2).trans rfl
                      have hcz31_3 : wc.cell? ⟨gb553, 3, none⟩ = some (.bool ((rd_T28 t549 x5_1).f3)) := (blk_cell BK553.out 3).trans rfl
                      have hfz31_0 := blk_frozen BK553.out 0
                      have hfz31_1 := blk_frozen BK553.out 1
                      have hfz31_2 := blk_frozen BK553.out 2
                      have hfz31_3 := blk_frozen BK553.out 3
                      go_wp2
                      repeat (go_quiet (fail); try go_wp2)
                      go_meet
                      case rel => exact ⟨_, (true), (by first | rfl | (simp; done) | (simp [*]; done)), H', ⟨by have := HK1.out; have := HJ5.out; first | omega | exact Nat.le_refl _⟩, ⟨by (with_reducible repeat (first | apply Kd.R_alloc | apply Kd.R_drewN | apply Kd.R_drew)); exact HO_3.out⟩, ⟨by (with_reducible repeat (first | refine blk_drewN ?_ _ | refine blk_drew ?_ | refine blk_alloc ?_ _)); exact BK553.out⟩, ⟨by repeat (first | (with_reducible first | exact HB.out | apply below_alloc | apply pw_below_drewN | apply below_drew1 | refine below_set ?_ GE553.out) | exact HB.out)⟩⟩
                  case rest =>
                    clear HC20
                    try clear c1
                    try clear c2
                    try clear p2
                    try clear q2
                    try clear hx2
                    try clear c4
                    try clear c4b0
                    try clear c5
                    try clear c5b0
                    try clear p5
                    try clear q5
                    try clear hx5
                    try clear c6
                    try clear p6
                    try clear c10
                    try clear c10b0
                    try clear c10b1
                    try clear c11
                    try clear c11b0
                    try clear c13
                    try clear c13b0
                    try clear c17
                    try clear c19
                    try clear c19b0
                    try clear c22
                    try clear c22b0
                    try clear c22b1
                    try clear c23
                    try clear c23b0
                    try clear c25
                    try clear c25b0
                    try clear c26
                    try clear c26b0
                    try clear p27
                    try clear q27
                    try clear hx27
                    try clear c28
                    try clear c28b0
                    try clear c28b1
                    try clear hcz12_0
                    try clear hcz12_1
                    try clear hcz12_2
                    try clear hcz12_3
                    try clear hcz14_0
                    try clear hcz14_1
                    try clear hcz14_2
                    try clear hcz14_3
                    try clear hcz15_0
                    try clear hcz15_1
                    try clear hcz15_2
                    try clear hcz15_3
                    try clear hcz16_0
                    try clear hcz16_1
                    try clear hcz16_2
                    try clear hcz16_3
                    try clear hcz21_0
                    try clear hcz21_1
                    try clear hcz21_2
                    try clear hcz21_3
                    try clear hcz24_0
                    try clear hcz24_1
                    try clear hcz24_2
                    try clear hcz24_3
                    try clear hcz29_0
                    try clear hcz29_1
                    try clear hcz29_2
                    try clear hcz29_3
                    try clear hcz30_0
                    try clear hcz30_1
                    try clear hcz30_2
                    try clear hcz30_3
                    try clear hcz31_0
                    try clear hcz31_1
                    try clear hcz31_2
                    try clear hcz31_3
                    try clear hcz9_0
                    try clear hcz9_1
                    try clear hcz9_2
                    try clear hcz9_3
                    try clear hfz12_0
                    try clear hfz12_1
                    try clear hfz12_2
                    try clear hfz12_3
                    try clear hfz14_0
                    try clear hfz14_1
                    try clear hfz14_2
                    try clear hfz14_3
                    try clear hfz15_0
                    try clear hfz15_1
                    try clear hfz15_2
                    try clear hfz15_3
                    try clear hfz16_0
                    try clear hfz16_1
                    try clear hfz16_2
                    try clear hfz16_3
                    try clear hfz21_0
                    try clear hfz21_1
                    try clear hfz21_2
                    try clear hfz21_3
                    try clear hfz24_0
                    try clear hfz24_1
                    try clear hfz24_2
                    try clear hfz24_3
                    try clear hfz29_0
                    try clear hfz29_1
                    try clear hfz29_2
                    try clear hfz29_3
                    try clear hfz30_0
                    try clear hfz30_1
                    try clear hfz30_2
                    try clear hfz30_3
                    try clear hfz31_0
                    try clear hfz31_1
                    try clear hfz31_2
                    try clear hfz31_3
                    try clear hfz9_0
                    try clear hfz9_1
                    try clear hfz9_2
                    try clear hfz9_3
                    try clear hx552_0
                    try clear hx552_1
                    try clear hx552_2
                    try clear hx552_3
                    try clear p2
                    try clear p27
                    try clear p5
                    try clear p552
                    try clear p6
                    try clear q27
                    try clear q5
                    try clear q552
                    obtain ⟨kq, x79_19, rfl, HA, HJ19, HO_3, BK553, HB⟩ := hcut
                    cases kq with
                    | zero => exact absurd HA.out (by simp [shardlaw1_TextWhole.j2])
                    | succ kj19 =>
                      have H := HA.out
                      clear HA
                      simp only [shardlaw1_TextWhole.j2] at H
                      by_cases c32 : x79_19 = true
                      · subst c32
                        have H1 : (some false) = some r := by rw [if_pos rfl] at H; exact H
                        clear H
                        have H := H1
                        clear H1
                        obtain rfl := Option.some.inj H
                        go_wp2
                        repeat (go_quiet (fail); try go_wp2)
                        go_ret
                        exact ⟨by first | rfl | (simp [errW_none, errW_some] <;> rfl) | (simp [*, errW_none, errW_some] <;> rfl), by repeat (first | (with_reducible first | exact HB.out | apply below_alloc | apply pw_below_drewN | apply below_drew1 | refine below_set ?_ GE553.out) | exact HB.out)⟩
                      · replace c32 := Bool.eq_false_iff.mpr c32
                        subst c32
                        have H1 : (shardlaw1_TextWhole.l0 kj19 a0 t549 (wrap64 (x4_1 + ((rd_T28 t549 x5_1).f2))) (wrap64 (x5_1 + 1))) = some r := by rw [if_neg (show ¬ (false = true) by decide)] at H; exact H
                        clear H
                        have H := H1
                        clear H1
                        have H' := Aside0.mk H
                        clear H
                        go_wp2
                        repeat (go_quiet (fail); try go_wp2)
                        go_roundg kj19
                        case measure => have := HK1.out; have := HJ5.out; have := HJ19.out; omega
                        case rel => exact ⟨((wrap64 (x4_1 + ((rd_T28 t549 x5_1).f2)))), (wrap64 (x5_1 + 1)), (by first | rfl | (simp; done) | (simp [*]; done)), (by first | rfl | (simp; done) | (simp [*]; done)), H', ⟨by have := HK1.out; have := HJ5.out; have := HJ19.out; omega⟩, ⟨by (with_reducible repeat (first | apply Kd.R_alloc | apply Kd.R_drewN | apply Kd.R_drew)); exact Kd.R_mono HO_3.out (fun _ hk => trivial)⟩, ⟨by repeat (first | (with_reducible first | exact HB.out | apply below_alloc | apply pw_below_drewN | apply below_drew1 | refine below_set ?_ GE553.out) | exact HB.out)⟩⟩
                · rw [if_neg c19] at H
                  have c19b0 : ((rd_T28 t549 x5_1).f3) = false := by simpa using c19
                  clear c19
                  by_cases c33 : t555 = 0
                  · rw [if_pos c33] at H
                    have c33b0 : (t555 == 0) = true := beq_iff_eq.mpr c33
                    have c33b1 : (t555 != 0) = false := bne_eq_false_iff_eq.mpr c33
                    clear c33
                    by_cases c34 : 0 ≤ ((rd_T28 t549 x5_1).f1)
                    · rw [if_pos c34] at H
                      have c34b0 := eq_true c34
                      have c34b1 : decide (0 ≤ ((rd_T28 t549 x5_1).f1)) = true := decide_eq_true c34
                      clear c34
                      by_cases c35 : ((rd_T28 t549 x5_1).f1) ≤ (wrap64 (x4_1 + ((rd_T28 t549 x5_1).f2)))
                      · rw [if_pos c35] at H
                        have c35b0 := eq_true c35
                        have c35b1 : decide (((rd_T28 t549 x5_1).f1) ≤ (wrap64 (x4_1 + ((rd_T28 t549 x5_1).f2)))) = true := decide_eq_true c35
                        by_cases c36 : (wrap64 (x4_1 + ((rd_T28 t549 x5_1).f2))) ≤ (a0.size : Int)
                        · rw [if_pos c36] at H
                          have c36b0 := eq_true c36
                          have c36b1 : decide ((wrap64 (x4_1 + ((rd_T28 t549 x5_1).f2))) ≤ (a0.size : Int)) = true := decide_eq_true c36
                          by_cases c37 : t554.toList = (a0.extract (((rd_T28 t549 x5_1).f1) : Int).toNat ((wrap64 (x4_1 + ((rd_T28 t549 x5_1).f2))) : Int).toNat).toList
                          · rw [if_pos c37] at H
                            have c37b0 : (t554.toList == (a0.extract (((rd_T28 t549 x5_1).f1) : Int).toNat ((wrap64 (x4_1 + ((rd_T28 t549 x5_1).f2))) : Int).toNat).toList) = true := beq_iff_eq.mpr c37
                            have c37b1 : (t554.toList != (a0.extract (((rd_T28 t549 x5_1).f1) : Int).toNat ((wrap64 (x4_1 + ((rd_T28 t549 x5_1).f2))) : Int).toNat).toList) = false := bne_eq_false_iff_eq.mpr c37
                            clear c37
                            have H' := Aside0.mk H
                            clear H
                            have hcz38_0 : wc.cell? ⟨gb553, 0, none⟩ = some (.int .i32 ((rd_T28 t549 x5_1).f0)) := (blk_cell BK553.out 0).trans rfl
                            have hcz38_1 : wc.cell? ⟨gb553, 1, none⟩ = some (.int .i64 ((rd_T28 t549 x5_1).f1)) := (blk_cell BK553.out 1).trans rfl
                            have hcz38_2 : wc.cell? ⟨gb553, 2, none⟩ = some (.int .i64 ((rd_T28 t549 x5_1).f2)) := (blk_cell BK553.out 2).trans rfl
                            have hcz38_3 : wc.cell? ⟨gb553, 3, none⟩ = some (.bool ((rd_T28 t549 x5_1).f3)) := (blk_cell BK553.out 3).trans rfl
                            have hfz38_0 := blk_frozen BK553.out 0
                            have hfz38_1 := blk_frozen BK553.out 1
                            have hfz38_2 := blk_frozen BK553.out 2
                            have hfz38_3 := blk_frozen BK553.out 3
                            go_wp2_with (first | (go_at_call 17; (with_reducible refine (text_Encode.calls kj5 ((rd_T28 t549 x5_1).f0) t554 t555 _ A18.out).mono ?_); rintro e w' ⟨rfl, ⟨nd, rfl⟩⟩; (try first | exact ⟨rfl, _, World.drewN_drewN _ _ _⟩ | exact ⟨rfl, _, Eq.trans (World.drewN_drewN _ _ _) (congrArg (World.drewN _) (Nat.add_assoc _ _ _))⟩)))
                            repeat (go_quiet (first | (go_at_call 17; (with_reducible refine (text_Encode.calls kj5 ((rd_T28 t549 x5_1).f0) t554 t555 _ A18.out).mono ?_); rintro e w' ⟨rfl, ⟨nd, rfl⟩⟩; (try first | exact ⟨rfl, _, World.drewN_drewN _ _ _⟩ | exact ⟨rfl, _, Eq.trans (World.drewN_drewN _ _ _) (congrArg (World.drewN _) (Nat.add_assoc _ _ _))⟩))); try go_wp2_with (first | (go_at_call 17; (with_reducible refine (text_Encode.calls kj5 ((rd_T28 t549 x5_1).f0) t554 t555 _ A18.out).mono ?_); rintro e w' ⟨rfl, ⟨nd, rfl⟩⟩; (try first | exact ⟨rfl, _, World.drewN_drewN _ _ _⟩ | exact ⟨rfl, _, Eq.trans (World.drewN_drewN _ _ _) (congrArg (World.drewN _) (Nat.add_assoc _ _ _))⟩))))
                            go_roundg kj5
                            case measure => have := HK1.out; have := HJ5.out; omega
                            case rel => exact ⟨(wrap64 (x4_1 + ((rd_T28 t549 x5_1).f2))), (wrap64 (x5_1 + 1)), (by first | rfl | (simp; done) | (simp [*]; done)), (by first | rfl | (simp; done) | (simp [*]; done)), H', ⟨by have := HK1.out; have := HJ5.out; omega⟩, ⟨by (with_reducible repeat (first | apply Kd.R_alloc | apply Kd.R_drewN | apply Kd.R_drew)); exact Kd.R_mono HO_3.out (fun _ hk => trivial)⟩, ⟨by repeat (first | (with_reducible first | exact HB.out | apply below_alloc | apply pw_below_drewN | apply below_drew1 | refine below_set ?_ GE553.out) | exact HB.out)⟩⟩
                          · rw [if_neg c37] at H
                            have c37b0 : (t554.toList == (a0.extract (((rd_T28 t549 x5_1).f1) : Int).toNat ((wrap64 (x4_1 + ((rd_T28 t549 x5_1).f2))) : Int).toNat).toList) = false := beq_eq_false_iff_ne.mpr c37
                            have c37b1 : (t554.toList != (a0.extract (((rd_T28 t549 x5_1).f1) : Int).toNat ((wrap64 (x4_1 + ((rd_T28 t549 x5_1).f2))) : Int).toNat).toList) = true := bne_iff_ne.mpr c37
                            obtain rfl := Option.some.inj H
                            have hcz39_0 : wc.cell? ⟨gb553, 0, none⟩ = some (.int .i32 ((rd_T28 t549 x5_1).f0)) := (blk_cell BK553.out 0).trans rfl
                            have hcz39_1 : wc.cell? ⟨gb553, 1, none⟩ = some (.int .i64 ((rd_T28 t549 x5_1).f1)) := (blk_cell BK553.out 1).trans rfl
                            have hcz39_2 : wc.cell? ⟨gb553, 2, none⟩ = some (.int .i64 ((rd_T28 t549 x5_1).f2)) := (blk_cell BK553.out 2).trans rfl
                            have hcz39_3 : wc.cell? ⟨gb553, 3, none⟩ = some (.bool ((rd_T28 t549 x5_1).f3)) := (blk_cell BK553.out 3).trans rfl
                            have hfz39_0 := blk_frozen BK553.out 0
                            have hfz39_1 := blk_frozen BK553.out 1
                            have hfz39_2 := blk_frozen BK553.out 2
                            have hfz39_3 := blk_frozen BK553.out 3
                            go_wp2_with (first | (go_at_call 17; (with_reducible refine (text_Encode.calls kj5 ((rd_T28 t549 x5_1).f0) t554 t555 _ A18.out).mono ?_); rintro e w' ⟨rfl, ⟨nd, rfl⟩⟩; (try first | exact ⟨rfl, _, World.drewN_drewN _ _ _⟩ | exact ⟨rfl, _, Eq.trans (World.drewN_drewN _ _ _) (congrArg (World.drewN _) (Nat.add_assoc _ _ _))⟩)))
                            repeat (go_quiet (first | (go_at_call 17; (with_reducible refine (text_Encode.calls kj5 ((rd_T28 t549 x5_1).f0) t554 t555 _ A18.out).mono ?_); rintro e w' ⟨rfl, ⟨nd, rfl⟩⟩; (try first | exact ⟨rfl, _, World.drewN_drewN _ _ _⟩ | exact ⟨rfl, _, Eq.trans (World.drewN_drewN _ _ _) (congrArg (World.drewN _) (Nat.add_assoc _ _ _))⟩))); try go_wp2_with (first | (go_at_call 17; (with_reducible refine (text_Encode.calls kj5 ((rd_T28 t549 x5_1).f0) t554 t555 _ A18.out).mono ?_); rintro e w' ⟨rfl, ⟨nd, rfl⟩⟩; (try first | exact ⟨rfl, _, World.drewN_drewN _ _ _⟩ | exact ⟨rfl, _, Eq.trans (World.drewN_drewN _ _ _) (congrArg (World.drewN _) (Nat.add_assoc _ _ _))⟩))))
                            go_ret
                            exact ⟨by first | rfl | (simp [errW_none, errW_some] <;> rfl) | (simp [*, errW_none, errW_some] <;> rfl), by repeat (first | (with_reducible first | exact HB.out | apply below_alloc | apply pw_below_drewN | apply below_drew1 | refine below_set ?_ GE553.out) | exact HB.out)⟩
                        · rw [if_neg c36] at H
                          exact absurd H (by simp)
                      · rw [if_neg c35] at H
                        exact absurd H (by simp)
                    · rw [if_neg c34] at H
                      exact absurd H (by simp)
                  · rw [if_neg c33] at H
                    have c33b0 : (t555 == 0) = false := beq_eq_false_iff_ne.mpr c33
                    have c33b1 : (t555 != 0) = true := bne_iff_ne.mpr c33
                    obtain rfl := Option.some.inj H
                    have hcz40_0 : wc.cell? ⟨gb553, 0, none⟩ = some (.int .i32 ((rd_T28 t549 x5_1).f0)) := (blk_cell BK553.out 0).trans rfl
                    have hcz40_1 : wc.cell? ⟨gb553, 1, none⟩ = some (.int .i64 ((rd_T28 t549 x5_1).f1)) := (blk_cell BK553.out 1).trans rfl
                    have hcz40_2 : wc.cell? ⟨gb553, 2, none⟩ = some (.int .i64 ((rd_T28 t549 x5_1).f2)) := (blk_cell BK553.out 2).trans rfl
                    have hcz40_3 : wc.cell? ⟨gb553, 3, none⟩ = some (.bool ((rd_T28 t549 x5_1).f3)) := (blk_cell BK553.out 3).trans rfl
                    have hfz40_0 := blk_frozen BK553.out 0
                    have hfz40_1 := blk_frozen BK553.out 1
                    have hfz40_2 := blk_frozen BK553.out 2
                    have hfz40_3 := blk_frozen BK553.out 3
                    go_wp2_with (first | (go_at_call 17; (with_reducible refine (text_Encode.calls kj5 ((rd_T28 t549 x5_1).f0) t554 t555 _ A18.out).mono ?_); rintro e w' ⟨rfl, ⟨nd, rfl⟩⟩; (try first | exact ⟨rfl, _, World.drewN_drewN _ _ _⟩ | exact ⟨rfl, _, Eq.trans (World.drewN_drewN _ _ _) (congrArg (World.drewN _) (Nat.add_assoc _ _ _))⟩)))
                    repeat (go_quiet (first | (go_at_call 17; (with_reducible refine (text_Encode.calls kj5 ((rd_T28 t549 x5_1).f0) t554 t555 _ A18.out).mono ?_); rintro e w' ⟨rfl, ⟨nd, rfl⟩⟩; (try first | exact ⟨rfl, _, World.drewN_drewN _ _ _⟩ | exact ⟨rfl, _, Eq.trans (World.drewN_drewN _ _ _) (congrArg (World.drewN _) (Nat.add_assoc _ _ _))⟩))); try go_wp2_with (first | (go_at_call 17; (with_reducible refine (text_Encode.calls kj5 ((rd_T28 t549 x5_1).f0) t554 t555 _ A18.out).mono ?_); rintro e w' ⟨rfl, ⟨nd, rfl⟩⟩; (try first | exact ⟨rfl, _, World.drewN_drewN _ _ _⟩ | exact ⟨rfl, _, Eq.trans (World.drewN_drewN _ _ _) (congrArg (World.drewN _) (Nat.add_assoc _ _ _))⟩))))
                    go_ret
                    exact ⟨by first | rfl | (simp [errW_none, errW_some] <;> rfl) | (simp [*, errW_none, errW_some] <;> rfl), by repeat (first | (with_reducible first | exact HB.out | apply below_alloc | apply pw_below_drewN | apply below_drew1 | refine below_set ?_ GE553.out) | exact HB.out)⟩
        · rw [if_neg c5] at H
          exact absurd H (by simp)
      · rw [if_neg c4] at H
        have c4b0 : decide (x5_1 < (t549.length : Int)) = false := decide_eq_false c4
        clear c4
        obtain rfl := Option.some.inj H
        obtain ⟨Ao41, co41, eo41⟩ := Kd.R_slice HO_3.out
        subst eo41
        go_wp2
        repeat (go_quiet (fail); try go_wp2)
        go_ret
        exact ⟨by first | rfl | (simp [errW_none, errW_some] <;> rfl) | (simp [*, errW_none, errW_some] <;> rfl), by repeat (first | (with_reducible first | exact HB.out | apply below_alloc | apply pw_below_drewN | apply below_drew1) | exact HB.out)⟩

/-- THE ONE PURE STATEMENT of shardlaw1_TextWhole: yours. -/
def shardlaw1_TextWhole.Pure : Prop := ∀ (a0 : ByteArray), a0.size ≤ 140737488351232 → ∃ k, shardlaw1_TextWhole.f k a0 = some true
theorem shardlaw1_TextWhole.walk (P : shardlaw1_TextWhole.Pure) (a0 : ByteArray) (w : World) (w0 : a0.size ≤ 140737488351232) :
    Calls Try.prog 6 #[.string a0] w fun e w' => e = .returned (.bool true) ∧ Below w.heap.size w w' := by
  obtain ⟨k, h⟩ := P a0 w0
  refine (shardlaw1_TextWhole.calls k a0 true w h).mono ?_
  rintro e w' ⟨rfl, hd⟩
  exact ⟨rfl, hd⟩

end Go.Proofs.Ytplhcnlpfoiieaa.P
