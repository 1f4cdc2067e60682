-- Written by printx.py (this work's driver over the kit's print) out of the translation; Lean checks it.
import Derived.Test.YtdjdbjcapenjeaaPx0
namespace Go.Proofs.Ytdjdbjcapenjeaa.P
open Go.RowKit Go.Proofs.YtdjdbjcapenjeaaW.PrintWords Go.Proofs.YtdjdbjcapenjeaaW.PrintLast Go.Proofs.YtdjdbjcapenjeaaW.PrintMore
attribute [local go_sem] max2_int min2_int max_two min_two max_three min_three max_four min_four   -- for this text's walks alone
set_option linter.unusedVariables false
set_option linter.unusedSimpArgs false

-- NOT PRINTED: function 26 (shardref14_Play)

-- NOT PRINTED: function 8 (shardref14_Step)

-- squeezed
/-! ### shardlaw14_twin: function 10 -/
def shardlaw14_twin.f (l0 : List Int) : Option (List Int) := if ([] : List Int).length + l0.length < 140737488355328 then (some (([] : List Int) ++ l0)) else (none)
set_option maxHeartbeats 8000000 in
set_option maxRecDepth 100000 in
theorem shardlaw14_twin.calls (A0 : Option Addr) (c0 : Nat) (l0 : List Int) (r : List Int) (w : World) (hr0 : Kd.C (Kd.int .u8) w A0 l0.length l0) (hc0 : l0.length ≤ c0) (h : shardlaw14_twin.f l0 = some r) :
  Calls Try.prog 10 #[.slice A0 l0.length c0] w fun e w' => ∃ v0_ : Value, e = .returned (v0_) ∧ Kd.R (Kd.int .u8) 5 w' w.heap.size (fun _ => True) v0_ r ∧ Below w.heap.size w w' := by
 have HR0 := Aside0.mk hr0
 have HC0 := Aside0.mk hc0
 clear hr0 hc0
 have HB := Aside0.mk (Below.refl w.heap.size w)
 have H : (if ([] : List Int).length + l0.length < 140737488355328 then (some (([] : List Int) ++ l0)) else (none)) = some r := h
 clear h
 by_cases c2 : ([] : List Int).length + l0.length < 140737488355328
 ·
  rw [if_pos c2] at H
  have LMc2 := Aside0.mk c2
  clear c2
  obtain ⟨y123, hy123⟩ : ∃ y_ : List Int, y_ = (([] : List Int) ++ l0) := ⟨_, rfl⟩
  replace H : (some y123) = some r := by first | (rw [hy123]; with_reducible exact H) | (have H2_ := (Option.bind_some _ _).symm.trans H; rw [hy123]; with_reducible exact H2_) | (have H2_ := (Option.bind_some _ _).symm.trans H; with_reducible exact H2_) | with_reducible exact H | (rw [hy123]; exact H) | exact H
  have Ny123 := Aside0.mk hy123
  clear hy123
  obtain rfl := Option.some.inj H
  go_enter Try.func10, Try.ntmps10
  go_wp2_with (first | ((with_reducible refine gate_builtin (b := .append) (xs := #[.tmp 4, .tmp 5]) rfl ?_); at_builtin; refine Kd.R_append_rows (Kd.int .u8) (w0 := w) w.heap.size rfl (.tmp 4) (.tmp 5) 25 5 (.int .u8 0) 1 rfl Try.underlying25 info5 rfl (by decide) (by omega) (.slice none 0 0) ([] : List Int) l0 _ _ _ (fun _ => True) (fun _ => False) rfl rfl ?aO ?aR (fun _ _ h => h) (fun _ h => h.elim) ?aF ?aB ?aS ?aL ?_; (case aR => repeat (first | exact HR0.out | (with_reducible refine Kd.C_alloc ?_ _) | (with_reducible refine Kd.C_drewN ?_ _) | (with_reducible refine Kd.C_drew ?_))); (case aB => exact (by repeat (first | (with_reducible first | exact HB.out | apply below_alloc | apply pw_below_drewN | apply below_drew1) | exact HB.out))); (case aF => exact (fun _ _ => trivial)); (case aO => exact ((Kd.R_nil _ _ _ _ (fun _ => True)))); (case aS => exact (below_size (by repeat (first | (with_reducible first | exact HB.out | apply below_alloc | apply pw_below_drewN | apply below_drew1) | exact HB.out)))); (case aL => have := LMc2.out; omega); intro v124 w3 ho hb hg hat; rw [← Ny123.out] at ho; have n0_ := Aside0.mk (hb); have n1_ := Aside0.mk (ho); clear HB; have HB := n0_; have HO125 := n1_; clear n0_ n1_; clear ho hb hg hat))
  go_ret
  exact ⟨_, by first | rfl | (simp [errW_none, errW_some] <;> rfl) | (simp [*, errW_none, errW_some] <;> rfl), by (with_reducible repeat (first | apply Kd.R_alloc | apply Kd.R_drewN | apply Kd.R_drew)); exact HO125.out, by repeat (first | (with_reducible first | exact HB.out | apply below_alloc | apply pw_below_drewN | apply below_drew1) | exact HB.out)⟩
 ·
  rw [if_neg c2] at H
  exact absurd H (by simp)

/-! ### shardlaw14_twins: function 9 -/
def shardlaw14_twins.l0 : Nat → List (S30) → List (S30) → Int → Option ((List (S30)))
 | 0, _, _, _ => none
 | k + 1, x0, x3, x4 => if x4 < (x0.length : Int) then (if 0 ≤ x4 then ((shardlaw14_twin.f ((rd_T30 x0 x4).f4)).bind fun t128 => ((shardlaw14_twin.f ((rd_T30 x0 x4).f2.f3)).bind fun t131 => ((shardlaw14_twin.f ((rd_T30 x0 x4).f2.f4)).bind fun t134 => (if x3.length < 977343669134 then (shardlaw14_twins.l0 k x0 (x3 ++ [(⟨(rd_T30 x0 x4).f0, (rd_T30 x0 x4).f1, (⟨(rd_T30 x0 x4).f2.f0, (rd_T30 x0 x4).f2.f1, (rd_T30 x0 x4).f2.f2, t131, t134, (rd_T30 x0 x4).f2.f5, (rd_T30 x0 x4).f2.f6⟩ : S27), (rd_T30 x0 x4).f3, t128, (rd_T30 x0 x4).f5, (rd_T30 x0 x4).f6⟩ : S30)]) (wrap64 (x4 + 1))) else (none))))) else (none)) else (some x3)
def shardlaw14_twins.f (k : Nat) (l0 : List (S30)) : Option ((List (S30))) := shardlaw14_twins.l0 k l0 ([] : List (S30)) 0
theorem shardlaw14_twins.mono_l : ∀ k, (∀ y0 y1 y2, LeO (shardlaw14_twins.l0 k y0 y1 y2) (shardlaw14_twins.l0 (k + 1) y0 y1 y2))
 | 0 => fun _ _ _ r h => by simp [shardlaw14_twins.l0] at h
 | k + 1 => by
  have ih0 := shardlaw14_twins.mono_l k
  ·
   intro y0 y1 y2
   unfold shardlaw14_twins.l0
   repeat' first
   | (with_reducible exact ih0 _ _ _)
   | (with_reducible exact LeO.refl _)
   | (with_reducible exact LeO.none _)
   | (with_reducible refine LeO.ite ?_ ?_)
   | (with_reducible refine LeO.bind ?_ (fun _ => ?_))
   | exact ih0 _ _ _
   | exact LeO.none _
   | refine LeO.ite ?_ ?_
   | refine LeO.bind ?_ (fun _ => ?_)
theorem shardlaw14_twins.mono : ∀ a0 k, LeO (shardlaw14_twins.f k a0) (shardlaw14_twins.f (k + 1) a0) := by
 intro a0 k
 have ih0 := shardlaw14_twins.mono_l k
 unfold shardlaw14_twins.f
 repeat' first
   | (with_reducible exact ih0 _ _ _)
   | (with_reducible exact LeO.refl _)
   | (with_reducible exact LeO.none _)
   | (with_reducible refine LeO.ite ?_ ?_)
   | (with_reducible refine LeO.bind ?_ (fun _ => ?_))
   | exact ih0 _ _ _
   | exact LeO.none _
   | refine LeO.ite ?_ ?_
   | refine LeO.bind ?_ (fun _ => ?_)
set_option maxHeartbeats 8000000 in
set_option maxRecDepth 100000 in
theorem shardlaw14_twins.calls (k : Nat) (A0 : Option Addr) (c0 : Nat) (l0 : List (S30)) (r : List (S30)) (w : World) (hr0 : Kd.C k30 w A0 l0.length l0) (hc0 : l0.length ≤ c0) (h : shardlaw14_twins.f k l0 = some r) :
  Calls Try.prog 9 #[.slice A0 l0.length c0] w fun e w' => ∃ v0_ : Value, e = .returned (v0_) ∧ Kd.S k30 30 w' w.heap.size (fun _ => True) v0_ r ∧ Below w.heap.size w w' := by
 have hu30 := Try.underlying30
 have HR0 := Aside0.mk hr0
 have HC0 := Aside0.mk hc0
 clear hr0 hc0
 have HB := Aside0.mk (Below.refl w.heap.size w)
 have H : (shardlaw14_twins.l0 k l0 ([] : List (S30)) 0) = some r := h
 clear h
 have H' := Aside0.mk H
 clear H
 go_enter Try.func9, Try.ntmps9
 go_wp2
 go_loopg [3, 4] k (fun kq v3 v4 w' => ∃ (x3_1 : List (S30)) (x4_1 : Int), v4 = .int .i64 x4_1 ∧ Aside0 (shardlaw14_twins.l0 kq l0 x3_1 x4_1 = some r) ∧ Aside0 (kq ≤ k) ∧ Aside0 (Kd.S k30 30 w' w.heap.size (fun _ => True) v3 x3_1) ∧ Aside0 (Below w.heap.size w w'))
 case atStart => exact ⟨(([] : List (S30))), (0), (by first | rfl | (simp; done) | (simp [*]; done)), H', ⟨Nat.le_refl _⟩, ⟨by first | exact Kd.S_nil _ _ _ _ _ | exact Kd.N_nil _ _ _ _ _ | exact Kd.V_nil _ _ _ _ _ | exact Kd.Q_nil _ _ _ _ _ | exact Kd.R_nil _ _ _ _ _⟩, ⟨by repeat (first | (with_reducible first | exact HB.out | apply below_alloc | apply pw_below_drewN | apply below_drew1) | exact HB.out)⟩⟩
 case round =>
  clear H'
  obtain ⟨x3_1, x4_1, rfl, HA, HK1, HO_3, HB⟩ := hrel
  cases gk with
  | zero => exact absurd HA.out (by simp [shardlaw14_twins.l0])
  | succ k1 =>
   have H := HA.out
   clear HA
   simp only [shardlaw14_twins.l0] at H
   by_cases c2 : x4_1 < (l0.length : Int)
   ·
    rw [if_pos c2] at H
    have c2b0 : decide (x4_1 < (l0.length : Int)) = true := decide_eq_true c2
    clear c2
    by_cases c3 : 0 ≤ x4_1
    ·
     rw [if_pos c3] at H
     have c3b0 : decide (0 ≤ x4_1) = true := decide_eq_true c3
     clear c3
     replace H := Option.bind_eq_some_iff.mp H
     obtain ⟨t128, A40, H⟩ := H
     replace H : ((shardlaw14_twin.f ((rd_T30 l0 x4_1).f2.f3)).bind fun t131 => ((shardlaw14_twin.f ((rd_T30 l0 x4_1).f2.f4)).bind fun t134 => (if x3_1.length < 977343669134 then (shardlaw14_twins.l0 k1 l0 (x3_1 ++ [(⟨(rd_T30 l0 x4_1).f0, (rd_T30 l0 x4_1).f1, (⟨(rd_T30 l0 x4_1).f2.f0, (rd_T30 l0 x4_1).f2.f1, (rd_T30 l0 x4_1).f2.f2, t131, t134, (rd_T30 l0 x4_1).f2.f5, (rd_T30 l0 x4_1).f2.f6⟩ : S27), (rd_T30 l0 x4_1).f3, t128, (rd_T30 l0 x4_1).f5, (rd_T30 l0 x4_1).f6⟩ : S30)]) (wrap64 (x4_1 + 1))) else (none)))) = some r := H
     have A4 := Aside0.mk A40
     clear A40
     replace H := Option.bind_eq_some_iff.mp H
     obtain ⟨t131, A50, H⟩ := H
     replace H : ((shardlaw14_twin.f ((rd_T30 l0 x4_1).f2.f4)).bind fun t134 => (if x3_1.length < 977343669134 then (shardlaw14_twins.l0 k1 l0 (x3_1 ++ [(⟨(rd_T30 l0 x4_1).f0, (rd_T30 l0 x4_1).f1, (⟨(rd_T30 l0 x4_1).f2.f0, (rd_T30 l0 x4_1).f2.f1, (rd_T30 l0 x4_1).f2.f2, t131, t134, (rd_T30 l0 x4_1).f2.f5, (rd_T30 l0 x4_1).f2.f6⟩ : S27), (rd_T30 l0 x4_1).f3, t128, (rd_T30 l0 x4_1).f5, (rd_T30 l0 x4_1).f6⟩ : S30)]) (wrap64 (x4_1 + 1))) else (none))) = some r := H
     have A5 := Aside0.mk A50
     clear A50
     replace H := Option.bind_eq_some_iff.mp H
     obtain ⟨t134, A60, H⟩ := H
     replace H : (if x3_1.length < 977343669134 then (shardlaw14_twins.l0 k1 l0 (x3_1 ++ [(⟨(rd_T30 l0 x4_1).f0, (rd_T30 l0 x4_1).f1, (⟨(rd_T30 l0 x4_1).f2.f0, (rd_T30 l0 x4_1).f2.f1, (rd_T30 l0 x4_1).f2.f2, t131, t134, (rd_T30 l0 x4_1).f2.f5, (rd_T30 l0 x4_1).f2.f6⟩ : S27), (rd_T30 l0 x4_1).f3, t128, (rd_T30 l0 x4_1).f5, (rd_T30 l0 x4_1).f6⟩ : S30)]) (wrap64 (x4_1 + 1))) else (none)) = some r := H
     have A6 := Aside0.mk A60
     clear A60
     by_cases c7 : x3_1.length < 977343669134
     ·
      rw [if_pos c7] at H
      have LMc7 := Aside0.mk c7
      clear c7
      obtain ⟨y137, hy137⟩ : ∃ y_ : List (S30), y_ = (x3_1 ++ [(⟨(rd_T30 l0 x4_1).f0, (rd_T30 l0 x4_1).f1, (⟨(rd_T30 l0 x4_1).f2.f0, (rd_T30 l0 x4_1).f2.f1, (rd_T30 l0 x4_1).f2.f2, t131, t134, (rd_T30 l0 x4_1).f2.f5, (rd_T30 l0 x4_1).f2.f6⟩ : S27), (rd_T30 l0 x4_1).f3, t128, (rd_T30 l0 x4_1).f5, (rd_T30 l0 x4_1).f6⟩ : S30)]) := ⟨_, rfl⟩
      replace H : (shardlaw14_twins.l0 k1 l0 y137 (wrap64 (x4_1 + 1))) = some r := by first | (rw [hy137]; with_reducible exact H) | (have H2_ := (Option.bind_some _ _).symm.trans H; rw [hy137]; with_reducible exact H2_) | (have H2_ := (Option.bind_some _ _).symm.trans H; with_reducible exact H2_) | with_reducible exact H | (rw [hy137]; exact H) | exact H
      have Ny137 := Aside0.mk hy137
      clear hy137
      have H' := Aside0.mk H
      clear H
      have p126 : 0 ≤ (x4_1 : Int) := of_decide_eq_true (by first | (with_reducible assumption) | assumption)
      have q126 : x4_1 < (l0.length : Int) := of_decide_eq_true (by first | (with_reducible assumption) | assumption)
      obtain ⟨ad126, A126_5, c126_5, A126_6, c126_6, A126_10, c126_10, e126, hx126_0, hx126_1, hx126_2, hx126_3, hx126_4, hx126_5, hx126_6, hx126_7, hx126_8, hx126_9, hx126_10, hx126_11, hx126_12, hl126_5, hi126_5, hl126_6, hi126_6, hl126_10, hi126_10⟩ := at_T30 HR0.out x4_1 p126 q126
      cases e126
      replace hx126_0 := (HB.out.cell (World.block_lt_of_cell? w _ hx126_0)).trans hx126_0
      replace hx126_1 := (HB.out.cell (World.block_lt_of_cell? w _ hx126_1)).trans hx126_1
      replace hx126_2 := (HB.out.cell (World.block_lt_of_cell? w _ hx126_2)).trans hx126_2
      replace hx126_3 := (HB.out.cell (World.block_lt_of_cell? w _ hx126_3)).trans hx126_3
      replace hx126_4 := (HB.out.cell (World.block_lt_of_cell? w _ hx126_4)).trans hx126_4
      replace hx126_5 := (HB.out.cell (World.block_lt_of_cell? w _ hx126_5)).trans hx126_5
      replace hx126_6 := (HB.out.cell (World.block_lt_of_cell? w _ hx126_6)).trans hx126_6
      replace hx126_7 := (HB.out.cell (World.block_lt_of_cell? w _ hx126_7)).trans hx126_7
      replace hx126_8 := (HB.out.cell (World.block_lt_of_cell? w _ hx126_8)).trans hx126_8
      replace hx126_9 := (HB.out.cell (World.block_lt_of_cell? w _ hx126_9)).trans hx126_9
      replace hx126_10 := (HB.out.cell (World.block_lt_of_cell? w _ hx126_10)).trans hx126_10
      replace hx126_11 := (HB.out.cell (World.block_lt_of_cell? w _ hx126_11)).trans hx126_11
      replace hx126_12 := (HB.out.cell (World.block_lt_of_cell? w _ hx126_12)).trans hx126_12
      have HR126_5 := Aside0.mk hi126_5
      have HC126_5 := Aside0.mk hl126_5
      clear hi126_5 hl126_5
      have HR126_6 := Aside0.mk hi126_6
      have HC126_6 := Aside0.mk hl126_6
      clear hi126_6 hl126_6
      have HR126_10 := Aside0.mk hi126_10
      have HC126_10 := Aside0.mk hl126_10
      clear hi126_10 hl126_10
      replace p126 := eq_true p126
      replace q126 := eq_true q126
      go_wp2_with (first | ((with_reducible refine gate_dst (N := 5) rfl ?_); refine box_event ?hg (N := 5) ?hd (cs := #[.int .u8 0, .int .u64 0, .int .u8 0, .int .u64 0, .int .u64 0, .slice none 0 0, .slice none 0 0, .bool false, .int .u8 0, .int .u8 0, .slice none 0 0, .int .i64 0, .int .i64 0]) (t := 30) ?hr ?_; (case hd => rfl); (case hg => rfl); (case hr => first | (go_simp; done) | (go_simp; rfl)); intro gb127 hg w8 hbox hb; have n0_ := Aside0.mk (Kd.S_below (Kd.S_elderB (by (with_reducible repeat (first | apply Kd.S_alloc | apply Kd.S_drewN | apply Kd.S_drew)); exact HO_3.out) gb127 (Nat.le_of_eq hg.symm)) hb); have n1_ := Aside0.mk (below_step (by repeat (first | (with_reducible first | exact HB.out | apply below_alloc | apply pw_below_drewN | apply below_drew1) | exact HB.out)) hb); have n2_ := Aside0.mk (hbox); have n3_ := Aside0.mk ((by rw [hg]; exact (below_size (by repeat (first | (with_reducible first | exact HB.out | apply below_alloc | apply pw_below_drewN | apply below_drew1) | exact HB.out))) : w.heap.size ≤ gb127)); have n4_ := Aside0.mk ((by rw [hg]; exact (below_size (by repeat (first | (with_reducible first | exact HB.out | apply below_alloc | apply pw_below_drewN | apply below_drew1) | exact HB.out))) : w.heap.size ≤ gb127)); clear HO_3; clear HB; have HO_3 := n0_; have HB := n1_; have BK127 := n2_; have GW127 := n3_; have GE127 := n4_; clear n0_ n1_ n2_ n3_ n4_; clear hb hbox hg; have hcz9_0 : w8.cell? ⟨gb127, 0, none⟩ = some (.int .u8 0) := (blk_cell BK127.out 0).trans rfl; have hcz9_1 : w8.cell? ⟨gb127, 1, none⟩ = some (.int .u64 0) := (blk_cell BK127.out 1).trans rfl; have hcz9_2 : w8.cell? ⟨gb127, 2, none⟩ = some (.int .u8 0) := (blk_cell BK127.out 2).trans rfl; have hcz9_3 : w8.cell? ⟨gb127, 3, none⟩ = some (.int .u64 0) := (blk_cell BK127.out 3).trans rfl; have hcz9_4 : w8.cell? ⟨gb127, 4, none⟩ = some (.int .u64 0) := (blk_cell BK127.out 4).trans rfl; have hcz9_5 : w8.cell? ⟨gb127, 5, none⟩ = some (.slice none 0 0) := (blk_cell BK127.out 5).trans rfl; have hcz9_6 : w8.cell? ⟨gb127, 6, none⟩ = some (.slice none 0 0) := (blk_cell BK127.out 6).trans rfl; have hcz9_7 : w8.cell? ⟨gb127, 7, none⟩ = some (.bool false) := (blk_cell BK127.out 7).trans rfl; have hcz9_8 : w8.cell? ⟨gb127, 8, none⟩ = some (.int .u8 0) := (blk_cell BK127.out 8).trans rfl; have hcz9_9 : w8.cell? ⟨gb127, 9, none⟩ = some (.int .u8 0) := (blk_cell BK127.out 9).trans rfl; have hcz9_10 : w8.cell? ⟨gb127, 10, none⟩ = some (.slice none 0 0) := (blk_cell BK127.out 10).trans rfl; have hcz9_11 : w8.cell? ⟨gb127, 11, none⟩ = some (.int .i64 0) := (blk_cell BK127.out 11).trans rfl; have hcz9_12 : w8.cell? ⟨gb127, 12, none⟩ = some (.int .i64 0) := (blk_cell BK127.out 12).trans rfl; have hfz9_0 := blk_frozen BK127.out 0; have hfz9_1 := blk_frozen BK127.out 1; have hfz9_2 := blk_frozen BK127.out 2; have hfz9_3 := blk_frozen BK127.out 3; have hfz9_4 := blk_frozen BK127.out 4; have hfz9_5 := blk_frozen BK127.out 5; have hfz9_6 := blk_frozen BK127.out 6; have hfz9_7 := blk_frozen BK127.out 7; have hfz9_8 := blk_frozen BK127.out 8; have hfz9_9 := blk_frozen BK127.out 9; have hfz9_10 := blk_frozen BK127.out 10; have hfz9_11 := blk_frozen BK127.out 11; have hfz9_12 := blk_frozen BK127.out 12) | ((with_reducible refine gate_callee (f := 10) rfl ?_); refine goesL_ (some 18) rfl rfl Try.func10 (by kernel_rfl) rfl #[.slice A126_10 ((rd_T30 l0 x4_1).f4).length c126_10] rfl (by (try simp only [List.map_toArray, List.map_cons, List.map_nil]); first | done | rfl | (simp only [List.length_drop, List.length_take]; rfl)) ?_; (with_reducible refine (shardlaw14_twin.calls _ _ ((rd_T30 l0 x4_1).f4) t128 _ ?side1 ?side2 A4.out).mono ?_); (case side1 => exact Kd.C_below HR126_10.out (by repeat (first | (with_reducible first | exact HB.out | apply below_alloc | apply pw_below_drewN | apply below_drew1 | refine below_set ?_ GE127.out) | exact HB.out))); (case side2 => exact HC126_10.out); rintro e w10 ⟨v129, rfl, ho0, hb⟩; refine ⟨_, rfl, ?_⟩; have n0_ := Aside0.mk (Kd.S_elder' (by (with_reducible repeat (first | apply Kd.S_alloc | apply Kd.S_drewN | apply Kd.S_drew)); exact (Kd.S_mono (Kd.S_far (p := ⟨gb127, 12, none⟩) (Kd.S_far (p := ⟨gb127, 11, none⟩) (Kd.S_far (p := ⟨gb127, 10, none⟩) (Kd.S_far (p := ⟨gb127, 9, none⟩) (Kd.S_far (p := ⟨gb127, 8, none⟩) (Kd.S_far (p := ⟨gb127, 7, none⟩) (Kd.S_far (p := ⟨gb127, 6, none⟩) (Kd.S_far (p := ⟨gb127, 5, none⟩) (Kd.S_far (p := ⟨gb127, 4, none⟩) (Kd.S_far (p := ⟨gb127, 3, none⟩) (Kd.S_far (p := ⟨gb127, 2, none⟩) (Kd.S_far (p := ⟨gb127, 1, none⟩) (Kd.S_far (p := ⟨gb127, 0, none⟩) (Kd.S_mono HO_3.out (fun k_ hk => (⟨hk, hk.2⟩ : _ ∧ k_ ≠ gb127))) (fun _ hk => hk.2) (.int .u8 ((rd_T30 l0 x4_1).f0))) (fun _ hk => hk.2) (.int .u64 ((rd_T30 l0 x4_1).f1))) (fun _ hk => hk.2) (.int .u8 ((rd_T30 l0 x4_1).f2.f0))) (fun _ hk => hk.2) (.int .u64 ((rd_T30 l0 x4_1).f2.f1))) (fun _ hk => hk.2) (.int .u64 ((rd_T30 l0 x4_1).f2.f2))) (fun _ hk => hk.2) (.slice A126_5 ((rd_T30 l0 x4_1).f2.f3).length c126_5)) (fun _ hk => hk.2) (.slice A126_6 ((rd_T30 l0 x4_1).f2.f4).length c126_6)) (fun _ hk => hk.2) (.bool ((rd_T30 l0 x4_1).f2.f5))) (fun _ hk => hk.2) (.int .u8 ((rd_T30 l0 x4_1).f2.f6))) (fun _ hk => hk.2) (.int .u8 ((rd_T30 l0 x4_1).f3))) (fun _ hk => hk.2) (.slice A126_10 ((rd_T30 l0 x4_1).f4).length c126_10)) (fun _ hk => hk.2) (.int .i64 ((rd_T30 l0 x4_1).f5))) (fun _ hk => hk.2) (.int .i64 ((rd_T30 l0 x4_1).f6))) (fun _ h_ => h_.1))) (Kd.R_base ho0) hb); have n1_ := Aside0.mk (Kd.R_lower ho0 (below_size (by repeat (first | (with_reducible first | exact HB.out | apply below_alloc | apply pw_below_drewN | apply below_drew1 | refine below_set ?_ GE127.out) | exact HB.out)))); have n2_ := Aside0.mk (blk_below (g := gb127) (o := .cells #[.int .u8 ((rd_T30 l0 x4_1).f0), .int .u64 ((rd_T30 l0 x4_1).f1), .int .u8 ((rd_T30 l0 x4_1).f2.f0), .int .u64 ((rd_T30 l0 x4_1).f2.f1), .int .u64 ((rd_T30 l0 x4_1).f2.f2), .slice A126_5 ((rd_T30 l0 x4_1).f2.f3).length c126_5, .slice A126_6 ((rd_T30 l0 x4_1).f2.f4).length c126_6, .bool ((rd_T30 l0 x4_1).f2.f5), .int .u8 ((rd_T30 l0 x4_1).f2.f6), .int .u8 ((rd_T30 l0 x4_1).f3), .slice A126_10 ((rd_T30 l0 x4_1).f4).length c126_10, .int .i64 ((rd_T30 l0 x4_1).f5), .int .i64 ((rd_T30 l0 x4_1).f6)] 30 (0, 0)) (by (with_reducible repeat (first | refine blk_drewN ?_ _ | refine blk_drew ?_ | refine blk_alloc ?_ _)); refine blk_put (cs := #[.int .u8 ((rd_T30 l0 x4_1).f0), .int .u64 ((rd_T30 l0 x4_1).f1), .int .u8 ((rd_T30 l0 x4_1).f2.f0), .int .u64 ((rd_T30 l0 x4_1).f2.f1), .int .u64 ((rd_T30 l0 x4_1).f2.f2), .slice A126_5 ((rd_T30 l0 x4_1).f2.f3).length c126_5, .slice A126_6 ((rd_T30 l0 x4_1).f2.f4).length c126_6, .bool ((rd_T30 l0 x4_1).f2.f5), .int .u8 ((rd_T30 l0 x4_1).f2.f6), .int .u8 ((rd_T30 l0 x4_1).f3), .slice A126_10 ((rd_T30 l0 x4_1).f4).length c126_10, .int .i64 ((rd_T30 l0 x4_1).f5), .int .i64 0]) ?_ 12 _ rfl; (with_reducible repeat (first | refine blk_drewN ?_ _ | refine blk_drew ?_ | refine blk_alloc ?_ _)); refine blk_put (cs := #[.int .u8 ((rd_T30 l0 x4_1).f0), .int .u64 ((rd_T30 l0 x4_1).f1), .int .u8 ((rd_T30 l0 x4_1).f2.f0), .int .u64 ((rd_T30 l0 x4_1).f2.f1), .int .u64 ((rd_T30 l0 x4_1).f2.f2), .slice A126_5 ((rd_T30 l0 x4_1).f2.f3).length c126_5, .slice A126_6 ((rd_T30 l0 x4_1).f2.f4).length c126_6, .bool ((rd_T30 l0 x4_1).f2.f5), .int .u8 ((rd_T30 l0 x4_1).f2.f6), .int .u8 ((rd_T30 l0 x4_1).f3), .slice A126_10 ((rd_T30 l0 x4_1).f4).length c126_10, .int .i64 0, .int .i64 0]) ?_ 11 _ rfl; (with_reducible repeat (first | refine blk_drewN ?_ _ | refine blk_drew ?_ | refine blk_alloc ?_ _)); refine blk_put (cs := #[.int .u8 ((rd_T30 l0 x4_1).f0), .int .u64 ((rd_T30 l0 x4_1).f1), .int .u8 ((rd_T30 l0 x4_1).f2.f0), .int .u64 ((rd_T30 l0 x4_1).f2.f1), .int .u64 ((rd_T30 l0 x4_1).f2.f2), .slice A126_5 ((rd_T30 l0 x4_1).f2.f3).length c126_5, .slice A126_6 ((rd_T30 l0 x4_1).f2.f4).length c126_6, .bool ((rd_T30 l0 x4_1).f2.f5), .int .u8 ((rd_T30 l0 x4_1).f2.f6), .int .u8 ((rd_T30 l0 x4_1).f3), .slice none 0 0, .int .i64 0, .int .i64 0]) ?_ 10 _ rfl; (with_reducible repeat (first | refine blk_drewN ?_ _ | refine blk_drew ?_ | refine blk_alloc ?_ _)); refine blk_put (cs := #[.int .u8 ((rd_T30 l0 x4_1).f0), .int .u64 ((rd_T30 l0 x4_1).f1), .int .u8 ((rd_T30 l0 x4_1).f2.f0), .int .u64 ((rd_T30 l0 x4_1).f2.f1), .int .u64 ((rd_T30 l0 x4_1).f2.f2), .slice A126_5 ((rd_T30 l0 x4_1).f2.f3).length c126_5, .slice A126_6 ((rd_T30 l0 x4_1).f2.f4).length c126_6, .bool ((rd_T30 l0 x4_1).f2.f5), .int .u8 ((rd_T30 l0 x4_1).f2.f6), .int .u8 0, .slice none 0 0, .int .i64 0, .int .i64 0]) ?_ 9 _ rfl; (with_reducible repeat (first | refine blk_drewN ?_ _ | refine blk_drew ?_ | refine blk_alloc ?_ _)); refine blk_put (cs := #[.int .u8 ((rd_T30 l0 x4_1).f0), .int .u64 ((rd_T30 l0 x4_1).f1), .int .u8 ((rd_T30 l0 x4_1).f2.f0), .int .u64 ((rd_T30 l0 x4_1).f2.f1), .int .u64 ((rd_T30 l0 x4_1).f2.f2), .slice A126_5 ((rd_T30 l0 x4_1).f2.f3).length c126_5, .slice A126_6 ((rd_T30 l0 x4_1).f2.f4).length c126_6, .bool ((rd_T30 l0 x4_1).f2.f5), .int .u8 0, .int .u8 0, .slice none 0 0, .int .i64 0, .int .i64 0]) ?_ 8 _ rfl; (with_reducible repeat (first | refine blk_drewN ?_ _ | refine blk_drew ?_ | refine blk_alloc ?_ _)); refine blk_put (cs := #[.int .u8 ((rd_T30 l0 x4_1).f0), .int .u64 ((rd_T30 l0 x4_1).f1), .int .u8 ((rd_T30 l0 x4_1).f2.f0), .int .u64 ((rd_T30 l0 x4_1).f2.f1), .int .u64 ((rd_T30 l0 x4_1).f2.f2), .slice A126_5 ((rd_T30 l0 x4_1).f2.f3).length c126_5, .slice A126_6 ((rd_T30 l0 x4_1).f2.f4).length c126_6, .bool false, .int .u8 0, .int .u8 0, .slice none 0 0, .int .i64 0, .int .i64 0]) ?_ 7 _ rfl; (with_reducible repeat (first | refine blk_drewN ?_ _ | refine blk_drew ?_ | refine blk_alloc ?_ _)); refine blk_put (cs := #[.int .u8 ((rd_T30 l0 x4_1).f0), .int .u64 ((rd_T30 l0 x4_1).f1), .int .u8 ((rd_T30 l0 x4_1).f2.f0), .int .u64 ((rd_T30 l0 x4_1).f2.f1), .int .u64 ((rd_T30 l0 x4_1).f2.f2), .slice A126_5 ((rd_T30 l0 x4_1).f2.f3).length c126_5, .slice none 0 0, .bool false, .int .u8 0, .int .u8 0, .slice none 0 0, .int .i64 0, .int .i64 0]) ?_ 6 _ rfl; (with_reducible repeat (first | refine blk_drewN ?_ _ | refine blk_drew ?_ | refine blk_alloc ?_ _)); refine blk_put (cs := #[.int .u8 ((rd_T30 l0 x4_1).f0), .int .u64 ((rd_T30 l0 x4_1).f1), .int .u8 ((rd_T30 l0 x4_1).f2.f0), .int .u64 ((rd_T30 l0 x4_1).f2.f1), .int .u64 ((rd_T30 l0 x4_1).f2.f2), .slice none 0 0, .slice none 0 0, .bool false, .int .u8 0, .int .u8 0, .slice none 0 0, .int .i64 0, .int .i64 0]) ?_ 5 _ rfl; (with_reducible repeat (first | refine blk_drewN ?_ _ | refine blk_drew ?_ | refine blk_alloc ?_ _)); refine blk_put (cs := #[.int .u8 ((rd_T30 l0 x4_1).f0), .int .u64 ((rd_T30 l0 x4_1).f1), .int .u8 ((rd_T30 l0 x4_1).f2.f0), .int .u64 ((rd_T30 l0 x4_1).f2.f1), .int .u64 0, .slice none 0 0, .slice none 0 0, .bool false, .int .u8 0, .int .u8 0, .slice none 0 0, .int .i64 0, .int .i64 0]) ?_ 4 _ rfl; (with_reducible repeat (first | refine blk_drewN ?_ _ | refine blk_drew ?_ | refine blk_alloc ?_ _)); refine blk_put (cs := #[.int .u8 ((rd_T30 l0 x4_1).f0), .int .u64 ((rd_T30 l0 x4_1).f1), .int .u8 ((rd_T30 l0 x4_1).f2.f0), .int .u64 0, .int .u64 0, .slice none 0 0, .slice none 0 0, .bool false, .int .u8 0, .int .u8 0, .slice none 0 0, .int .i64 0, .int .i64 0]) ?_ 3 _ rfl; (with_reducible repeat (first | refine blk_drewN ?_ _ | refine blk_drew ?_ | refine blk_alloc ?_ _)); refine blk_put (cs := #[.int .u8 ((rd_T30 l0 x4_1).f0), .int .u64 ((rd_T30 l0 x4_1).f1), .int .u8 0, .int .u64 0, .int .u64 0, .slice none 0 0, .slice none 0 0, .bool false, .int .u8 0, .int .u8 0, .slice none 0 0, .int .i64 0, .int .i64 0]) ?_ 2 _ rfl; (with_reducible repeat (first | refine blk_drewN ?_ _ | refine blk_drew ?_ | refine blk_alloc ?_ _)); refine blk_put (cs := #[.int .u8 ((rd_T30 l0 x4_1).f0), .int .u64 0, .int .u8 0, .int .u64 0, .int .u64 0, .slice none 0 0, .slice none 0 0, .bool false, .int .u8 0, .int .u8 0, .slice none 0 0, .int .i64 0, .int .i64 0]) ?_ 1 _ rfl; (with_reducible repeat (first | refine blk_drewN ?_ _ | refine blk_drew ?_ | refine blk_alloc ?_ _)); refine blk_put (cs := #[.int .u8 0, .int .u64 0, .int .u8 0, .int .u64 0, .int .u64 0, .slice none 0 0, .slice none 0 0, .bool false, .int .u8 0, .int .u8 0, .slice none 0 0, .int .i64 0, .int .i64 0]) ?_ 0 _ rfl; (with_reducible repeat (first | refine blk_drewN ?_ _ | refine blk_drew ?_ | refine blk_alloc ?_ _)); exact BK127.out) hb); have n3_ := Aside0.mk (below_step (by repeat (first | (with_reducible first | exact HB.out | apply below_alloc | apply pw_below_drewN | apply below_drew1 | refine below_set ?_ GE127.out) | exact HB.out)) hb); clear HO_3; clear BK127; clear HB; have HO_3 := n0_; have HO130 := n1_; have BK127 := n2_; have HB := n3_; clear n0_ n1_ n2_ n3_; (try clear hb); (try clear hb2); (try clear hk); (try clear hi); (try clear ho0); obtain ⟨Ao11, co11, eo11⟩ := Kd.R_slice HO130.out; subst eo11; have hcz12_0 : w10.cell? ⟨gb127, 0, none⟩ = some (.int .u8 ((rd_T30 l0 x4_1).f0)) := (blk_cell BK127.out 0).trans rfl; have hcz12_1 : w10.cell? ⟨gb127, 1, none⟩ = some (.int .u64 ((rd_T30 l0 x4_1).f1)) := (blk_cell BK127.out 1).trans rfl; have hcz12_2 : w10.cell? ⟨gb127, 2, none⟩ = some (.int .u8 ((rd_T30 l0 x4_1).f2.f0)) := (blk_cell BK127.out 2).trans rfl; have hcz12_3 : w10.cell? ⟨gb127, 3, none⟩ = some (.int .u64 ((rd_T30 l0 x4_1).f2.f1)) := (blk_cell BK127.out 3).trans rfl; have hcz12_4 : w10.cell? ⟨gb127, 4, none⟩ = some (.int .u64 ((rd_T30 l0 x4_1).f2.f2)) := (blk_cell BK127.out 4).trans rfl; have hcz12_5 : w10.cell? ⟨gb127, 5, none⟩ = some (.slice A126_5 ((rd_T30 l0 x4_1).f2.f3).length c126_5) := (blk_cell BK127.out 5).trans rfl; have hcz12_6 : w10.cell? ⟨gb127, 6, none⟩ = some (.slice A126_6 ((rd_T30 l0 x4_1).f2.f4).length c126_6) := (blk_cell BK127.out 6).trans rfl; have hcz12_7 : w10.cell? ⟨gb127, 7, none⟩ = some (.bool ((rd_T30 l0 x4_1).f2.f5)) := (blk_cell BK127.out 7).trans rfl; have hcz12_8 : w10.cell? ⟨gb127, 8, none⟩ = some (.int .u8 ((rd_T30 l0 x4_1).f2.f6)) := (blk_cell BK127.out 8).trans rfl; have hcz12_9 : w10.cell? ⟨gb127, 9, none⟩ = some (.int .u8 ((rd_T30 l0 x4_1).f3)) := (blk_cell BK127.out 9).trans rfl; have hcz12_10 : w10.cell? ⟨gb127, 10, none⟩ = some (.slice A126_10 ((rd_T30 l0 x4_1).f4).length c126_10) := (blk_cell BK127.out 10).trans rfl; have hcz12_11 : w10.cell? ⟨gb127, 11, none⟩ = some (.int .i64 ((rd_T30 l0 x4_1).f5)) := (blk_cell BK127.out 11).trans rfl; have hcz12_12 : w10.cell? ⟨gb127, 12, none⟩ = some (.int .i64 ((rd_T30 l0 x4_1).f6)) := (blk_cell BK127.out 12).trans rfl; have hfz12_0 := blk_frozen BK127.out 0; have hfz12_1 := blk_frozen BK127.out 1; have hfz12_2 := blk_frozen BK127.out 2; have hfz12_3 := blk_frozen BK127.out 3; have hfz12_4 := blk_frozen BK127.out 4; have hfz12_5 := blk_frozen BK127.out 5; have hfz12_6 := blk_frozen BK127.out 6; have hfz12_7 := blk_frozen BK127.out 7; have hfz12_8 := blk_frozen BK127.out 8; have hfz12_9 := blk_frozen BK127.out 9; have hfz12_10 := blk_frozen BK127.out 10; have hfz12_11 := blk_frozen BK127.out 11; have hfz12_12 := blk_frozen BK127.out 12) | ((with_reducible refine gate_callee (f := 10) rfl ?_); refine goesL_ (some 23) rfl rfl Try.func10 (by kernel_rfl) rfl #[.slice A126_5 ((rd_T30 l0 x4_1).f2.f3).length c126_5] rfl (by (try simp only [List.map_toArray, List.map_cons, List.map_nil]); first | done | rfl | (simp only [List.length_drop, List.length_take]; rfl)) ?_; (with_reducible refine (shardlaw14_twin.calls _ _ ((rd_T30 l0 x4_1).f2.f3) t131 _ ?side1 ?side2 A5.out).mono ?_); (case side1 => exact Kd.C_below HR126_5.out (by repeat (first | (with_reducible first | exact HB.out | apply below_alloc | apply pw_below_drewN | apply below_drew1 | refine below_set ?_ GE127.out) | exact HB.out))); (case side2 => exact HC126_5.out); rintro e w13 ⟨v132, rfl, ho0, hb⟩; refine ⟨_, rfl, ?_⟩; have n0_ := Aside0.mk (Kd.S_elder' (by (with_reducible repeat (first | apply Kd.S_alloc | apply Kd.S_drewN | apply Kd.S_drew)); exact (Kd.S_mono (Kd.S_far (p := ⟨gb127, 10, none⟩) (Kd.S_mono HO_3.out (fun k_ hk => (⟨hk, hk.1.2⟩ : _ ∧ k_ ≠ gb127))) (fun _ hk => hk.2) (.slice Ao11 t128.length co11)) (fun _ h_ => h_.1))) (Kd.R_base ho0) hb); have n1_ := Aside0.mk (Kd.R_elder' (by (with_reducible repeat (first | apply Kd.R_alloc | apply Kd.R_drewN | apply Kd.R_drew)); exact (Kd.R_mono (Kd.R_far (p := ⟨gb127, 10, none⟩) (Kd.R_types HO130.out BK127.out (by decide)) (fun _ hk => hk.2) (.slice Ao11 t128.length co11)) (fun _ h_ => h_.1))) (Kd.R_base ho0) hb); have n2_ := Aside0.mk (Kd.R_lower (Kd.R_new' ho0 (Kd.R_lt (by (with_reducible repeat (first | apply Kd.R_alloc | apply Kd.R_drewN | apply Kd.R_drew)); exact (Kd.R_mono (Kd.R_far (p := ⟨gb127, 10, none⟩) (Kd.R_types HO130.out BK127.out (by decide)) (fun _ hk => hk.2) (.slice Ao11 t128.length co11)) (fun _ h_ => h_.1))))) (below_size (by repeat (first | (with_reducible first | exact HB.out | apply below_alloc | apply pw_below_drewN | apply below_drew1 | refine below_set ?_ GE127.out) | exact HB.out)))); have n3_ := Aside0.mk (blk_below (g := gb127) (o := .cells #[.int .u8 ((rd_T30 l0 x4_1).f0), .int .u64 ((rd_T30 l0 x4_1).f1), .int .u8 ((rd_T30 l0 x4_1).f2.f0), .int .u64 ((rd_T30 l0 x4_1).f2.f1), .int .u64 ((rd_T30 l0 x4_1).f2.f2), .slice A126_5 ((rd_T30 l0 x4_1).f2.f3).length c126_5, .slice A126_6 ((rd_T30 l0 x4_1).f2.f4).length c126_6, .bool ((rd_T30 l0 x4_1).f2.f5), .int .u8 ((rd_T30 l0 x4_1).f2.f6), .int .u8 ((rd_T30 l0 x4_1).f3), .slice Ao11 t128.length co11, .int .i64 ((rd_T30 l0 x4_1).f5), .int .i64 ((rd_T30 l0 x4_1).f6)] 30 (0, 0)) (by (with_reducible repeat (first | refine blk_drewN ?_ _ | refine blk_drew ?_ | refine blk_alloc ?_ _)); refine blk_put (cs := #[.int .u8 ((rd_T30 l0 x4_1).f0), .int .u64 ((rd_T30 l0 x4_1).f1), .int .u8 ((rd_T30 l0 x4_1).f2.f0), .int .u64 ((rd_T30 l0 x4_1).f2.f1), .int .u64 ((rd_T30 l0 x4_1).f2.f2), .slice A126_5 ((rd_T30 l0 x4_1).f2.f3).length c126_5, .slice A126_6 ((rd_T30 l0 x4_1).f2.f4).length c126_6, .bool ((rd_T30 l0 x4_1).f2.f5), .int .u8 ((rd_T30 l0 x4_1).f2.f6), .int .u8 ((rd_T30 l0 x4_1).f3), .slice A126_10 ((rd_T30 l0 x4_1).f4).length c126_10, .int .i64 ((rd_T30 l0 x4_1).f5), .int .i64 ((rd_T30 l0 x4_1).f6)]) ?_ 10 _ rfl; (with_reducible repeat (first | refine blk_drewN ?_ _ | refine blk_drew ?_ | refine blk_alloc ?_ _)); exact BK127.out) hb); have n4_ := Aside0.mk (below_step (by repeat (first | (with_reducible first | exact HB.out | apply below_alloc | apply pw_below_drewN | apply below_drew1 | refine below_set ?_ GE127.out) | exact HB.out)) hb); clear HO_3; clear HO130; clear BK127; clear HB; have HO_3 := n0_; have HO130 := n1_; have HO133 := n2_; have BK127 := n3_; have HB := n4_; clear n0_ n1_ n2_ n3_ n4_; (try clear hb); (try clear hb2); (try clear hk); (try clear hi); (try clear ho0); obtain ⟨Ao14, co14, eo14⟩ := Kd.R_slice HO133.out; subst eo14; have hcz15_0 : w13.cell? ⟨gb127, 0, none⟩ = some (.int .u8 ((rd_T30 l0 x4_1).f0)) := (blk_cell BK127.out 0).trans rfl; have hcz15_1 : w13.cell? ⟨gb127, 1, none⟩ = some (.int .u64 ((rd_T30 l0 x4_1).f1)) := (blk_cell BK127.out 1).trans rfl; have hcz15_2 : w13.cell? ⟨gb127, 2, none⟩ = some (.int .u8 ((rd_T30 l0 x4_1).f2.f0)) := (blk_cell BK127.out 2).trans rfl; have hcz15_3 : w13.cell? ⟨gb127, 3, none⟩ = some (.int .u64 ((rd_T30 l0 x4_1).f2.f1)) := (blk_cell BK127.out 3).trans rfl; have hcz15_4 : w13.cell? ⟨gb127, 4, none⟩ = some (.int .u64 ((rd_T30 l0 x4_1).f2.f2)) := (blk_cell BK127.out 4).trans rfl; have hcz15_5 : w13.cell? ⟨gb127, 5, none⟩ = some (.slice A126_5 ((rd_T30 l0 x4_1).f2.f3).length c126_5) := (blk_cell BK127.out 5).trans rfl; have hcz15_6 : w13.cell? ⟨gb127, 6, none⟩ = some (.slice A126_6 ((rd_T30 l0 x4_1).f2.f4).length c126_6) := (blk_cell BK127.out 6).trans rfl; have hcz15_7 : w13.cell? ⟨gb127, 7, none⟩ = some (.bool ((rd_T30 l0 x4_1).f2.f5)) := (blk_cell BK127.out 7).trans rfl; have hcz15_8 : w13.cell? ⟨gb127, 8, none⟩ = some (.int .u8 ((rd_T30 l0 x4_1).f2.f6)) := (blk_cell BK127.out 8).trans rfl; have hcz15_9 : w13.cell? ⟨gb127, 9, none⟩ = some (.int .u8 ((rd_T30 l0 x4_1).f3)) := (blk_cell BK127.out 9).trans rfl; have hcz15_10 : w13.cell? ⟨gb127, 10, none⟩ = some (.slice Ao11 t128.length co11) := (blk_cell BK127.out 10).trans rfl; have hcz15_11 : w13.cell? ⟨gb127, 11, none⟩ = some (.int .i64 ((rd_T30 l0 x4_1).f5)) := (blk_cell BK127.out 11).trans rfl; have hcz15_12 : w13.cell? ⟨gb127, 12, none⟩ = some (.int .i64 ((rd_T30 l0 x4_1).f6)) := (blk_cell BK127.out 12).trans rfl; have hfz15_0 := blk_frozen BK127.out 0; have hfz15_1 := blk_frozen BK127.out 1; have hfz15_2 := blk_frozen BK127.out 2; have hfz15_3 := blk_frozen BK127.out 3; have hfz15_4 := blk_frozen BK127.out 4; have hfz15_5 := blk_frozen BK127.out 5; have hfz15_6 := blk_frozen BK127.out 6; have hfz15_7 := blk_frozen BK127.out 7; have hfz15_8 := blk_frozen BK127.out 8; have hfz15_9 := blk_frozen BK127.out 9; have hfz15_10 := blk_frozen BK127.out 10; have hfz15_11 := blk_frozen BK127.out 11; have hfz15_12 := blk_frozen BK127.out 12) | ((with_reducible refine gate_callee (f := 10) rfl ?_); refine goesL_ (some 29) rfl rfl Try.func10 (by kernel_rfl) rfl #[.slice A126_6 ((rd_T30 l0 x4_1).f2.f4).length c126_6] rfl (by (try simp only [List.map_toArray, List.map_cons, List.map_nil]); first | done | rfl | (simp only [List.length_drop, List.length_take]; rfl)) ?_; (with_reducible refine (shardlaw14_twin.calls _ _ ((rd_T30 l0 x4_1).f2.f4) t134 _ ?side1 ?side2 A6.out).mono ?_); (case side1 => exact Kd.C_below HR126_6.out (by repeat (first | (with_reducible first | exact HB.out | apply below_alloc | apply pw_below_drewN | apply below_drew1 | refine below_set ?_ GE127.out) | exact HB.out))); (case side2 => exact HC126_6.out); rintro e w16 ⟨v135, rfl, ho0, hb⟩; refine ⟨_, rfl, ?_⟩; have n0_ := Aside0.mk (Kd.S_elder' (by (with_reducible repeat (first | apply Kd.S_alloc | apply Kd.S_drewN | apply Kd.S_drew)); exact (Kd.S_mono (Kd.S_far (p := ⟨gb127, 5, none⟩) (Kd.S_mono HO_3.out (fun k_ hk => (⟨hk, hk.1.1.2⟩ : _ ∧ k_ ≠ gb127))) (fun _ hk => hk.2) (.slice Ao14 t131.length co14)) (fun _ h_ => h_.1))) (Kd.R_base ho0) hb); have n1_ := Aside0.mk (Kd.R_elder' (by (with_reducible repeat (first | apply Kd.R_alloc | apply Kd.R_drewN | apply Kd.R_drew)); exact (Kd.R_mono (Kd.R_far (p := ⟨gb127, 5, none⟩) (Kd.R_types HO130.out BK127.out (by decide)) (fun _ hk => hk.2) (.slice Ao14 t131.length co14)) (fun _ h_ => h_.1))) (Kd.R_base ho0) hb); have n2_ := Aside0.mk (Kd.R_elder' (by (with_reducible repeat (first | apply Kd.R_alloc | apply Kd.R_drewN | apply Kd.R_drew)); exact (Kd.R_mono (Kd.R_far (p := ⟨gb127, 5, none⟩) (Kd.R_types HO133.out BK127.out (by decide)) (fun _ hk => hk.2) (.slice Ao14 t131.length co14)) (fun _ h_ => h_.1))) (Kd.R_base ho0) hb); have n3_ := Aside0.mk (Kd.R_lower (Kd.R_new' (Kd.R_new' ho0 (Kd.R_lt (by (with_reducible repeat (first | apply Kd.R_alloc | apply Kd.R_drewN | apply Kd.R_drew)); exact (Kd.R_mono (Kd.R_far (p := ⟨gb127, 5, none⟩) (Kd.R_types HO130.out BK127.out (by decide)) (fun _ hk => hk.2) (.slice Ao14 t131.length co14)) (fun _ h_ => h_.1))))) (Kd.R_lt (by (with_reducible repeat (first | apply Kd.R_alloc | apply Kd.R_drewN | apply Kd.R_drew)); exact (Kd.R_mono (Kd.R_far (p := ⟨gb127, 5, none⟩) (Kd.R_types HO133.out BK127.out (by decide)) (fun _ hk => hk.2) (.slice Ao14 t131.length co14)) (fun _ h_ => h_.1))))) (below_size (by repeat (first | (with_reducible first | exact HB.out | apply below_alloc | apply pw_below_drewN | apply below_drew1 | refine below_set ?_ GE127.out) | exact HB.out)))); have n4_ := Aside0.mk (blk_below (g := gb127) (o := .cells #[.int .u8 ((rd_T30 l0 x4_1).f0), .int .u64 ((rd_T30 l0 x4_1).f1), .int .u8 ((rd_T30 l0 x4_1).f2.f0), .int .u64 ((rd_T30 l0 x4_1).f2.f1), .int .u64 ((rd_T30 l0 x4_1).f2.f2), .slice Ao14 t131.length co14, .slice A126_6 ((rd_T30 l0 x4_1).f2.f4).length c126_6, .bool ((rd_T30 l0 x4_1).f2.f5), .int .u8 ((rd_T30 l0 x4_1).f2.f6), .int .u8 ((rd_T30 l0 x4_1).f3), .slice Ao11 t128.length co11, .int .i64 ((rd_T30 l0 x4_1).f5), .int .i64 ((rd_T30 l0 x4_1).f6)] 30 (0, 0)) (by (with_reducible repeat (first | refine blk_drewN ?_ _ | refine blk_drew ?_ | refine blk_alloc ?_ _)); refine blk_put (cs := #[.int .u8 ((rd_T30 l0 x4_1).f0), .int .u64 ((rd_T30 l0 x4_1).f1), .int .u8 ((rd_T30 l0 x4_1).f2.f0), .int .u64 ((rd_T30 l0 x4_1).f2.f1), .int .u64 ((rd_T30 l0 x4_1).f2.f2), .slice A126_5 ((rd_T30 l0 x4_1).f2.f3).length c126_5, .slice A126_6 ((rd_T30 l0 x4_1).f2.f4).length c126_6, .bool ((rd_T30 l0 x4_1).f2.f5), .int .u8 ((rd_T30 l0 x4_1).f2.f6), .int .u8 ((rd_T30 l0 x4_1).f3), .slice Ao11 t128.length co11, .int .i64 ((rd_T30 l0 x4_1).f5), .int .i64 ((rd_T30 l0 x4_1).f6)]) ?_ 5 _ rfl; (with_reducible repeat (first | refine blk_drewN ?_ _ | refine blk_drew ?_ | refine blk_alloc ?_ _)); exact BK127.out) hb); have n5_ := Aside0.mk (below_step (by repeat (first | (with_reducible first | exact HB.out | apply below_alloc | apply pw_below_drewN | apply below_drew1 | refine below_set ?_ GE127.out) | exact HB.out)) hb); clear HO_3; clear HO130; clear HO133; clear BK127; clear HB; have HO_3 := n0_; have HO130 := n1_; have HO133 := n2_; have HO136 := n3_; have BK127 := n4_; have HB := n5_; clear n0_ n1_ n2_ n3_ n4_ n5_; (try clear hb); (try clear hb2); (try clear hk); (try clear hi); (try clear ho0); obtain ⟨Ao17, co17, eo17⟩ := Kd.R_slice HO136.out; subst eo17; have hcz18_0 : w16.cell? ⟨gb127, 0, none⟩ = some (.int .u8 ((rd_T30 l0 x4_1).f0)) := (blk_cell BK127.out 0).trans rfl; have hcz18_1 : w16.cell? ⟨gb127, 1, none⟩ = some (.int .u64 ((rd_T30 l0 x4_1).f1)) := (blk_cell BK127.out 1).trans rfl; have hcz18_2 : w16.cell? ⟨gb127, 2, none⟩ = some (.int .u8 ((rd_T30 l0 x4_1).f2.f0)) := (blk_cell BK127.out 2).trans rfl; have hcz18_3 : w16.cell? ⟨gb127, 3, none⟩ = some (.int .u64 ((rd_T30 l0 x4_1).f2.f1)) := (blk_cell BK127.out 3).trans rfl; have hcz18_4 : w16.cell? ⟨gb127, 4, none⟩ = some (.int .u64 ((rd_T30 l0 x4_1).f2.f2)) := (blk_cell BK127.out 4).trans rfl; have hcz18_5 : w16.cell? ⟨gb127, 5, none⟩ = some (.slice Ao14 t131.length co14) := (blk_cell BK127.out 5).trans rfl; have hcz18_6 : w16.cell? ⟨gb127, 6, none⟩ = some (.slice A126_6 ((rd_T30 l0 x4_1).f2.f4).length c126_6) := (blk_cell BK127.out 6).trans rfl; have hcz18_7 : w16.cell? ⟨gb127, 7, none⟩ = some (.bool ((rd_T30 l0 x4_1).f2.f5)) := (blk_cell BK127.out 7).trans rfl; have hcz18_8 : w16.cell? ⟨gb127, 8, none⟩ = some (.int .u8 ((rd_T30 l0 x4_1).f2.f6)) := (blk_cell BK127.out 8).trans rfl; have hcz18_9 : w16.cell? ⟨gb127, 9, none⟩ = some (.int .u8 ((rd_T30 l0 x4_1).f3)) := (blk_cell BK127.out 9).trans rfl; have hcz18_10 : w16.cell? ⟨gb127, 10, none⟩ = some (.slice Ao11 t128.length co11) := (blk_cell BK127.out 10).trans rfl; have hcz18_11 : w16.cell? ⟨gb127, 11, none⟩ = some (.int .i64 ((rd_T30 l0 x4_1).f5)) := (blk_cell BK127.out 11).trans rfl; have hcz18_12 : w16.cell? ⟨gb127, 12, none⟩ = some (.int .i64 ((rd_T30 l0 x4_1).f6)) := (blk_cell BK127.out 12).trans rfl; have hfz18_0 := blk_frozen BK127.out 0; have hfz18_1 := blk_frozen BK127.out 1; have hfz18_2 := blk_frozen BK127.out 2; have hfz18_3 := blk_frozen BK127.out 3; have hfz18_4 := blk_frozen BK127.out 4; have hfz18_5 := blk_frozen BK127.out 5; have hfz18_6 := blk_frozen BK127.out 6; have hfz18_7 := blk_frozen BK127.out 7; have hfz18_8 := blk_frozen BK127.out 8; have hfz18_9 := blk_frozen BK127.out 9; have hfz18_10 := blk_frozen BK127.out 10; have hfz18_11 := blk_frozen BK127.out 11; have hfz18_12 := blk_frozen BK127.out 12) | ((with_reducible refine gate_store (t := 25) (p := 31) rfl ?_); refine store_event (t := 25) (p := 31) (v := ?vo_w19) (w1 := (w16.setCell ⟨gb127, 6, none⟩ (.slice Ao17 t134.length co17))) ?hg ?ho ?hn ?hr ?_; (case ho => rfl); (case hg => rfl); (case hn => rfl); (case hr => first | (go_simp; done) | (go_simp; rfl)); intro w19 hw; have n0_ : Aside0 (Kd.S k30 30 w19 w.heap.size (fun k_ => some k_ ≠ (.slice Ao11 t128.length co11 : Value).ownBlock ∧ some k_ ≠ (.slice Ao14 t131.length co14 : Value).ownBlock ∧ some k_ ≠ (.slice Ao17 t134.length co17 : Value).ownBlock ∧ k_ ≠ gb127) u3 x3_1) := ⟨(by rw [hw]; exact (by (with_reducible repeat (first | apply Kd.S_alloc | apply Kd.S_drewN | apply Kd.S_drew)); exact Kd.S_mono (Kd.S_far (p := ⟨gb127, 6, none⟩) (Kd.S_mono HO_3.out (fun k_ hk => (⟨hk, hk.1.1.1.2⟩ : _ ∧ k_ ≠ gb127))) (fun _ hk => hk.2) (.slice Ao17 t134.length co17)) (fun _ hk => ⟨hk.1.1.1.2, ⟨hk.1.1.2, ⟨hk.1.2, hk.1.1.1.1.2⟩⟩⟩)))⟩; have n1_ : Aside0 (Kd.R (Kd.int .u8) 5 w19 w.heap.size (fun k_ => some k_ ≠ (.slice Ao14 t131.length co14 : Value).ownBlock ∧ some k_ ≠ (.slice Ao17 t134.length co17 : Value).ownBlock) (.slice Ao11 t128.length co11) t128) := ⟨(by rw [hw]; exact (by (with_reducible repeat (first | apply Kd.R_alloc | apply Kd.R_drewN | apply Kd.R_drew)); exact Kd.R_mono (Kd.R_far (p := ⟨gb127, 6, none⟩) (Kd.R_types HO130.out BK127.out (by decide)) (fun _ hk => hk.2) (.slice Ao17 t134.length co17)) (fun _ hk => ⟨hk.1.1.2, hk.1.2⟩)))⟩; have n2_ : Aside0 (Kd.R (Kd.int .u8) 5 w19 w.heap.size (fun k_ => some k_ ≠ (.slice Ao11 t128.length co11 : Value).ownBlock ∧ some k_ ≠ (.slice Ao17 t134.length co17 : Value).ownBlock) (.slice Ao14 t131.length co14) t131) := ⟨(by rw [hw]; exact (by (with_reducible repeat (first | apply Kd.R_alloc | apply Kd.R_drewN | apply Kd.R_drew)); exact Kd.R_mono (Kd.R_far (p := ⟨gb127, 6, none⟩) (Kd.R_types HO133.out BK127.out (by decide)) (fun _ hk => hk.2) (.slice Ao17 t134.length co17)) (fun _ hk => ⟨hk.1.1.2, hk.1.2⟩)))⟩; have n3_ : Aside0 (Kd.R (Kd.int .u8) 5 w19 w.heap.size (fun k_ => some k_ ≠ (.slice Ao11 t128.length co11 : Value).ownBlock ∧ some k_ ≠ (.slice Ao14 t131.length co14 : Value).ownBlock) (.slice Ao17 t134.length co17) t134) := ⟨(by rw [hw]; exact (by (with_reducible repeat (first | apply Kd.R_alloc | apply Kd.R_drewN | apply Kd.R_drew)); exact Kd.R_mono (Kd.R_far (p := ⟨gb127, 6, none⟩) (Kd.R_types HO136.out BK127.out (by decide)) (fun _ hk => hk.2) (.slice Ao17 t134.length co17)) (fun _ hk => ⟨hk.1.1.2, hk.1.2⟩)))⟩; have n4_ : Aside0 (w19.heap[gb127]? = some (.cells #[.int .u8 ((rd_T30 l0 x4_1).f0), .int .u64 ((rd_T30 l0 x4_1).f1), .int .u8 ((rd_T30 l0 x4_1).f2.f0), .int .u64 ((rd_T30 l0 x4_1).f2.f1), .int .u64 ((rd_T30 l0 x4_1).f2.f2), .slice Ao14 t131.length co14, .slice Ao17 t134.length co17, .bool ((rd_T30 l0 x4_1).f2.f5), .int .u8 ((rd_T30 l0 x4_1).f2.f6), .int .u8 ((rd_T30 l0 x4_1).f3), .slice Ao11 t128.length co11, .int .i64 ((rd_T30 l0 x4_1).f5), .int .i64 ((rd_T30 l0 x4_1).f6)] 30 (0, 0))) := ⟨(by rw [hw]; exact (by (with_reducible repeat (first | refine blk_drewN ?_ _ | refine blk_drew ?_ | refine blk_alloc ?_ _)); refine blk_put (cs := #[.int .u8 ((rd_T30 l0 x4_1).f0), .int .u64 ((rd_T30 l0 x4_1).f1), .int .u8 ((rd_T30 l0 x4_1).f2.f0), .int .u64 ((rd_T30 l0 x4_1).f2.f1), .int .u64 ((rd_T30 l0 x4_1).f2.f2), .slice Ao14 t131.length co14, .slice A126_6 ((rd_T30 l0 x4_1).f2.f4).length c126_6, .bool ((rd_T30 l0 x4_1).f2.f5), .int .u8 ((rd_T30 l0 x4_1).f2.f6), .int .u8 ((rd_T30 l0 x4_1).f3), .slice Ao11 t128.length co11, .int .i64 ((rd_T30 l0 x4_1).f5), .int .i64 ((rd_T30 l0 x4_1).f6)]) ?_ 6 _ rfl; (with_reducible repeat (first | refine blk_drewN ?_ _ | refine blk_drew ?_ | refine blk_alloc ?_ _)); exact BK127.out))⟩; have n5_ : Aside0 (Below w.heap.size w w19) := ⟨(by rw [hw]; exact (by repeat (first | (with_reducible first | exact HB.out | apply below_alloc | apply pw_below_drewN | apply below_drew1 | refine below_set ?_ GE127.out) | exact HB.out)))⟩; clear hw; clear HO_3; clear HO130; clear HO133; clear HO136; clear BK127; clear HB; have HO_3 := n0_; have HO130 := n1_; have HO133 := n2_; have HO136 := n3_; have BK127 := n4_; have HB := n5_; clear n0_ n1_ n2_ n3_ n4_ n5_; have hcz20_0 : w19.cell? ⟨gb127, 0, none⟩ = some (.int .u8 ((rd_T30 l0 x4_1).f0)) := (blk_cell BK127.out 0).trans rfl; have hcz20_1 : w19.cell? ⟨gb127, 1, none⟩ = some (.int .u64 ((rd_T30 l0 x4_1).f1)) := (blk_cell BK127.out 1).trans rfl; have hcz20_2 : w19.cell? ⟨gb127, 2, none⟩ = some (.int .u8 ((rd_T30 l0 x4_1).f2.f0)) := (blk_cell BK127.out 2).trans rfl; have hcz20_3 : w19.cell? ⟨gb127, 3, none⟩ = some (.int .u64 ((rd_T30 l0 x4_1).f2.f1)) := (blk_cell BK127.out 3).trans rfl; have hcz20_4 : w19.cell? ⟨gb127, 4, none⟩ = some (.int .u64 ((rd_T30 l0 x4_1).f2.f2)) := (blk_cell BK127.out 4).trans rfl; have hcz20_5 : w19.cell? ⟨gb127, 5, none⟩ = some (.slice Ao14 t131.length co14) := (blk_cell BK127.out 5).trans rfl; have hcz20_6 : w19.cell? ⟨gb127, 6, none⟩ = some (.slice Ao17 t134.length co17) := (blk_cell BK127.out 6).trans rfl; have hcz20_7 : w19.cell? ⟨gb127, 7, none⟩ = some (.bool ((rd_T30 l0 x4_1).f2.f5)) := (blk_cell BK127.out 7).trans rfl; have hcz20_8 : w19.cell? ⟨gb127, 8, none⟩ = some (.int .u8 ((rd_T30 l0 x4_1).f2.f6)) := (blk_cell BK127.out 8).trans rfl; have hcz20_9 : w19.cell? ⟨gb127, 9, none⟩ = some (.int .u8 ((rd_T30 l0 x4_1).f3)) := (blk_cell BK127.out 9).trans rfl; have hcz20_10 : w19.cell? ⟨gb127, 10, none⟩ = some (.slice Ao11 t128.length co11) := (blk_cell BK127.out 10).trans rfl; have hcz20_11 : w19.cell? ⟨gb127, 11, none⟩ = some (.int .i64 ((rd_T30 l0 x4_1).f5)) := (blk_cell BK127.out 11).trans rfl; have hcz20_12 : w19.cell? ⟨gb127, 12, none⟩ = some (.int .i64 ((rd_T30 l0 x4_1).f6)) := (blk_cell BK127.out 12).trans rfl; have hfz20_0 := blk_frozen BK127.out 0; have hfz20_1 := blk_frozen BK127.out 1; have hfz20_2 := blk_frozen BK127.out 2; have hfz20_3 := blk_frozen BK127.out 3; have hfz20_4 := blk_frozen BK127.out 4; have hfz20_5 := blk_frozen BK127.out 5; have hfz20_6 := blk_frozen BK127.out 6; have hfz20_7 := blk_frozen BK127.out 7; have hfz20_8 := blk_frozen BK127.out 8; have hfz20_9 := blk_frozen BK127.out 9; have hfz20_10 := blk_frozen BK127.out 10; have hfz20_11 := blk_frozen BK127.out 11; have hfz20_12 := blk_frozen BK127.out 12) | ((with_reducible refine gate_builtin (b := .append) (xs := #[.tmp 32, .tmp 34]) rfl ?_); at_builtin; refine Kd.S_append k30 (w0 := w) w.heap.size rfl (.tmp 32) (.tmp 34) 33 30 (.agg #[(.int .u8 0), (.int .u64 0), (.int .u8 0), (.int .u64 0), (.int .u64 0), (.slice none 0 0), (.slice none 0 0), (.bool false), (.int .u8 0), (.int .u8 0), (.slice none 0 0), (.int .i64 0), (.int .i64 0)]) 144 rfl Try.underlying33 info30 rfl (by decide) (by omega) u3 x3_1 (⟨(rd_T30 l0 x4_1).f0, (rd_T30 l0 x4_1).f1, (⟨(rd_T30 l0 x4_1).f2.f0, (rd_T30 l0 x4_1).f2.f1, (rd_T30 l0 x4_1).f2.f2, t131, t134, (rd_T30 l0 x4_1).f2.f5, (rd_T30 l0 x4_1).f2.f6⟩ : S27), (rd_T30 l0 x4_1).f3, t128, (rd_T30 l0 x4_1).f5, (rd_T30 l0 x4_1).f6⟩ : S30) [.int .u8 ((rd_T30 l0 x4_1).f0), .int .u64 ((rd_T30 l0 x4_1).f1), .int .u8 ((rd_T30 l0 x4_1).f2.f0), .int .u64 ((rd_T30 l0 x4_1).f2.f1), .int .u64 ((rd_T30 l0 x4_1).f2.f2), .slice Ao14 t131.length co14, .slice Ao17 t134.length co17, .bool ((rd_T30 l0 x4_1).f2.f5), .int .u8 ((rd_T30 l0 x4_1).f2.f6), .int .u8 ((rd_T30 l0 x4_1).f3), .slice Ao11 t128.length co11, .int .i64 ((rd_T30 l0 x4_1).f5), .int .i64 ((rd_T30 l0 x4_1).f6)] (fun k_ => k_ ≠ gb127) (fun k_ => some k_ = (.slice Ao14 t131.length co14 : Value).ownBlock ∨ some k_ = (.slice Ao17 t134.length co17 : Value).ownBlock ∨ some k_ = (.slice Ao11 t128.length co11 : Value).ownBlock) rfl rfl ?aP (fun k_ hk_ => hk_.elim (fun h_ => ((Kd.R_mono (ok' := fun k_ => ((fun k_ => k_ ≠ gb127)) k_ ∧ some k_ ≠ (u3 : Value).ownBlock) (Kd.R_types (Kd.R_apart' (HO133.out) (Kd.S_typed HO_3.out) (by decide)) BK127.out (by decide)) (fun k_ hk => ⟨hk.2, hk.1.2⟩))).1 k_ h_.symm) (fun h_ => h_.elim (fun h_ => ((Kd.R_mono (ok' := fun k_ => ((fun k_ => k_ ≠ gb127)) k_ ∧ some k_ ≠ (u3 : Value).ownBlock) (Kd.R_types (Kd.R_apart' (HO136.out) (Kd.S_typed HO_3.out) (by decide)) BK127.out (by decide)) (fun k_ hk => ⟨hk.2, hk.1.2⟩))).1 k_ h_.symm) (fun h_ => ((Kd.R_mono (ok' := fun k_ => ((fun k_ => k_ ≠ gb127)) k_ ∧ some k_ ≠ (u3 : Value).ownBlock) (Kd.R_types (Kd.R_apart' (HO130.out) (Kd.S_typed HO_3.out) (by decide)) BK127.out (by decide)) (fun k_ hk => ⟨hk.2, hk.1.2⟩))).1 k_ h_.symm))) ?aF ?aO ?aB ?aS ?aL ?_; (case aP => exact k30_mkM _ _ _ (⟨(rd_T30 l0 x4_1).f0, (rd_T30 l0 x4_1).f1, (⟨(rd_T30 l0 x4_1).f2.f0, (rd_T30 l0 x4_1).f2.f1, (rd_T30 l0 x4_1).f2.f2, t131, t134, (rd_T30 l0 x4_1).f2.f5, (rd_T30 l0 x4_1).f2.f6⟩ : S27), (rd_T30 l0 x4_1).f3, t128, (rd_T30 l0 x4_1).f5, (rd_T30 l0 x4_1).f6⟩ : S30) (Kd.R_mono (Kd.R_tight rfl (Kd.R_mono (ok' := fun k_ => ((fun k_ => k_ ≠ gb127)) k_ ∧ some k_ ≠ (u3 : Value).ownBlock) (Kd.R_types (Kd.R_apart' (HO133.out) (Kd.S_typed HO_3.out) (by decide)) BK127.out (by decide)) (fun k_ hk => ⟨hk.2, hk.1.2⟩))) (fun _ h_ => Or.inl h_)) (Kd.R_mono (Kd.R_tight rfl (Kd.R_mono (ok' := fun k_ => ((fun k_ => k_ ≠ gb127)) k_ ∧ some k_ ≠ (u3 : Value).ownBlock) (Kd.R_types (Kd.R_apart' (HO136.out) (Kd.S_typed HO_3.out) (by decide)) BK127.out (by decide)) (fun k_ hk => ⟨hk.2, hk.1.2⟩))) (fun _ h_ => Or.inr (Or.inl h_))) (Kd.R_mono (Kd.R_tight rfl (Kd.R_mono (ok' := fun k_ => ((fun k_ => k_ ≠ gb127)) k_ ∧ some k_ ≠ (u3 : Value).ownBlock) (Kd.R_types (Kd.R_apart' (HO130.out) (Kd.S_typed HO_3.out) (by decide)) BK127.out (by decide)) (fun k_ hk => ⟨hk.2, hk.1.2⟩))) (fun _ h_ => Or.inr (Or.inr (h_))))); (case aB => exact (by repeat (first | (with_reducible first | exact HB.out | apply below_alloc | apply pw_below_drewN | apply below_drew1 | refine below_set ?_ GE127.out) | exact HB.out))); (case aF => exact (fun k_ hk => Kd.freshB (g := gb127) (o := .cells #[.int .u8 ((rd_T30 l0 x4_1).f0), .int .u64 ((rd_T30 l0 x4_1).f1), .int .u8 ((rd_T30 l0 x4_1).f2.f0), .int .u64 ((rd_T30 l0 x4_1).f2.f1), .int .u64 ((rd_T30 l0 x4_1).f2.f2), .slice Ao14 t131.length co14, .slice Ao17 t134.length co17, .bool ((rd_T30 l0 x4_1).f2.f5), .int .u8 ((rd_T30 l0 x4_1).f2.f6), .int .u8 ((rd_T30 l0 x4_1).f3), .slice Ao11 t128.length co11, .int .i64 ((rd_T30 l0 x4_1).f5), .int .i64 ((rd_T30 l0 x4_1).f6)] 30 (0, 0)) (by (with_reducible repeat (first | refine blk_drewN ?_ _ | refine blk_drew ?_ | refine blk_alloc ?_ _)); exact BK127.out) k_ hk)); (case aO => exact (by (with_reducible repeat (first | apply Kd.S_alloc | apply Kd.S_drewN | apply Kd.S_drew)); exact Kd.S_mono HO_3.out (fun k_ hk => ⟨hk.2.2.2, fun e_ => e_.elim (fun h_ => hk.2.1 h_) (fun h_ => h_.elim (fun h_ => hk.2.2.1 h_) (fun h_ => hk.1 h_))⟩))); (case aS => exact (below_size (by repeat (first | (with_reducible first | exact HB.out | apply below_alloc | apply pw_below_drewN | apply below_drew1 | refine below_set ?_ GE127.out) | exact HB.out)))); (case aL => have := LMc7.out; omega); intro v138 w21 ho hb hg hat; rw [← Ny137.out] at ho; have n0_ := Aside0.mk (blk_grown (g := gb127) (o := .cells #[.int .u8 ((rd_T30 l0 x4_1).f0), .int .u64 ((rd_T30 l0 x4_1).f1), .int .u8 ((rd_T30 l0 x4_1).f2.f0), .int .u64 ((rd_T30 l0 x4_1).f2.f1), .int .u64 ((rd_T30 l0 x4_1).f2.f2), .slice Ao14 t131.length co14, .slice Ao17 t134.length co17, .bool ((rd_T30 l0 x4_1).f2.f5), .int .u8 ((rd_T30 l0 x4_1).f2.f6), .int .u8 ((rd_T30 l0 x4_1).f3), .slice Ao11 t128.length co11, .int .i64 ((rd_T30 l0 x4_1).f5), .int .i64 ((rd_T30 l0 x4_1).f6)] 30 (0, 0)) (by (with_reducible repeat (first | refine blk_drewN ?_ _ | refine blk_drew ?_ | refine blk_alloc ?_ _)); exact BK127.out) hg (Kd.S_away HO_3.out (fun _ hk => hk.2.2.2))); have n1_ := Aside0.mk (hb); have n2_ := Aside0.mk (ho); clear BK127; clear HB; clear HO_3; clear HO130; clear HO133; clear HO136; have BK127 := n0_; have HB := n1_; have HO139 := n2_; clear n0_ n1_ n2_; clear ho hb hg hat))
      go_roundg k1
      case measure => have := HK1.out; omega
      case rel => exact ⟨(y137), (wrap64 (x4_1 + 1)), (by first | rfl | (simp; done) | (simp [*]; done)), H', ⟨by have := HK1.out; omega⟩, ⟨by (with_reducible repeat (first | apply Kd.S_alloc | apply Kd.S_drewN | apply Kd.S_drew)); exact Kd.S_mono HO139.out (fun _ hk => trivial)⟩, ⟨by repeat (first | (with_reducible first | exact HB.out | apply below_alloc | apply pw_below_drewN | apply below_drew1 | refine below_set ?_ GE127.out) | exact HB.out)⟩⟩
     ·
      rw [if_neg c7] at H
      exact absurd H (by simp)
    ·
     rw [if_neg c3] at H
     exact absurd H (by simp)
   ·
    rw [if_neg c2] at H
    have c2b0 : decide (x4_1 < (l0.length : Int)) = false := decide_eq_false c2
    clear c2
    obtain rfl := Option.some.inj H
    go_wp2
    go_ret
    exact ⟨_, by first | rfl | (simp [errW_none, errW_some] <;> rfl) | (simp [*, errW_none, errW_some] <;> rfl), by (with_reducible repeat (first | apply Kd.S_alloc | apply Kd.S_drewN | apply Kd.S_drew)); exact HO_3.out, by repeat (first | (with_reducible first | exact HB.out | apply below_alloc | apply pw_below_drewN | apply below_drew1) | exact HB.out)⟩

/-! ### linear_known: function 41 -/
def linear_known.f (a0_0 : Int) (a0_1 : Int) (a0_2 : Int) (a0_3 : Int) (a0_4 : Int) (l0_5 : List Int) (l0_6 : List Int) (a0_7 : Bool) (a0_8 : Int) (a0_9 : Int) (l0_10 : List Int) (a0_11 : Int) (a0_12 : Int) : Option (Bool) := some (a0_12 != (-1))
set_option maxHeartbeats 8000000 in
set_option maxRecDepth 100000 in
theorem linear_known.calls (a0_0 : Int) (a0_1 : Int) (a0_2 : Int) (a0_3 : Int) (a0_4 : Int) (A0_5 : Option Addr) (c0_5 : Nat) (l0_5 : List Int) (A0_6 : Option Addr) (c0_6 : Nat) (l0_6 : List Int) (a0_7 : Bool) (a0_8 : Int) (a0_9 : Int) (A0_10 : Option Addr) (c0_10 : Nat) (l0_10 : List Int) (a0_11 : Int) (a0_12 : Int) (r : Bool) (w : World) (hr0_5 : Kd.C (Kd.int .u8) w A0_5 l0_5.length l0_5) (hc0_5 : l0_5.length ≤ c0_5) (hr0_6 : Kd.C (Kd.int .u8) w A0_6 l0_6.length l0_6) (hc0_6 : l0_6.length ≤ c0_6) (hr0_10 : Kd.C (Kd.int .u8) w A0_10 l0_10.length l0_10) (hc0_10 : l0_10.length ≤ c0_10) (h : linear_known.f a0_0 a0_1 a0_2 a0_3 a0_4 l0_5 l0_6 a0_7 a0_8 a0_9 l0_10 a0_11 a0_12 = some r) :
  Calls Try.prog 41 #[.agg #[.int .u8 a0_0, .int .u64 a0_1, .int .u8 a0_2, .int .u64 a0_3, .int .u64 a0_4, .slice A0_5 l0_5.length c0_5, .slice A0_6 l0_6.length c0_6, .bool a0_7, .int .u8 a0_8, .int .u8 a0_9, .slice A0_10 l0_10.length c0_10, .int .i64 a0_11, .int .i64 a0_12]] w fun e w' => e = .returned (.bool r) ∧ Below w.heap.size w w' := by
 have hu30 := Try.underlying30
 have HR0_5 := Aside0.mk hr0_5
 have HC0_5 := Aside0.mk hc0_5
 clear hr0_5 hc0_5
 have HR0_6 := Aside0.mk hr0_6
 have HC0_6 := Aside0.mk hc0_6
 clear hr0_6 hc0_6
 have HR0_10 := Aside0.mk hr0_10
 have HC0_10 := Aside0.mk hc0_10
 clear hr0_10 hc0_10
 have HB := Aside0.mk (Below.refl w.heap.size w)
 have H : (some (a0_12 != (-1))) = some r := h
 clear h
 obtain rfl := Option.some.inj H
 go_enter Try.func41, Try.ntmps41
 go_wp2_with (first | ((with_reducible refine gate_dst (N := 1) rfl ?_); refine box_event ?hg (N := 1) ?hd (cs := #[.int .u8 a0_0, .int .u64 a0_1, .int .u8 a0_2, .int .u64 a0_3, .int .u64 a0_4, .slice A0_5 l0_5.length c0_5, .slice A0_6 l0_6.length c0_6, .bool a0_7, .int .u8 a0_8, .int .u8 a0_9, .slice A0_10 l0_10.length c0_10, .int .i64 a0_11, .int .i64 a0_12]) (t := 30) ?hr ?_; (case hd => rfl); (case hg => rfl); (case hr => first | (go_simp; done) | (go_simp; rfl)); intro gb140 hg w2 hbox hb; have n0_ := Aside0.mk (below_step (by repeat (first | (with_reducible first | exact HB.out | apply below_alloc | apply pw_below_drewN | apply below_drew1) | exact HB.out)) hb); have n1_ := Aside0.mk (hbox); have n2_ := Aside0.mk ((by rw [hg]; exact (below_size (by repeat (first | (with_reducible first | exact HB.out | apply below_alloc | apply pw_below_drewN | apply below_drew1) | exact HB.out))) : w.heap.size ≤ gb140)); have n3_ := Aside0.mk ((by rw [hg]; exact (below_size (by repeat (first | (with_reducible first | exact HB.out | apply below_alloc | apply pw_below_drewN | apply below_drew1) | exact HB.out))) : w.heap.size ≤ gb140)); clear HB; have HB := n0_; have BK140 := n1_; have GW140 := n2_; have GE140 := n3_; clear n0_ n1_ n2_ n3_; clear hb hbox hg; have hcz3_0 : w2.cell? ⟨gb140, 0, none⟩ = some (.int .u8 a0_0) := (blk_cell BK140.out 0).trans rfl; have hcz3_1 : w2.cell? ⟨gb140, 1, none⟩ = some (.int .u64 a0_1) := (blk_cell BK140.out 1).trans rfl; have hcz3_2 : w2.cell? ⟨gb140, 2, none⟩ = some (.int .u8 a0_2) := (blk_cell BK140.out 2).trans rfl; have hcz3_3 : w2.cell? ⟨gb140, 3, none⟩ = some (.int .u64 a0_3) := (blk_cell BK140.out 3).trans rfl; have hcz3_4 : w2.cell? ⟨gb140, 4, none⟩ = some (.int .u64 a0_4) := (blk_cell BK140.out 4).trans rfl; have hcz3_5 : w2.cell? ⟨gb140, 5, none⟩ = some (.slice A0_5 l0_5.length c0_5) := (blk_cell BK140.out 5).trans rfl; have hcz3_6 : w2.cell? ⟨gb140, 6, none⟩ = some (.slice A0_6 l0_6.length c0_6) := (blk_cell BK140.out 6).trans rfl; have hcz3_7 : w2.cell? ⟨gb140, 7, none⟩ = some (.bool a0_7) := (blk_cell BK140.out 7).trans rfl; have hcz3_8 : w2.cell? ⟨gb140, 8, none⟩ = some (.int .u8 a0_8) := (blk_cell BK140.out 8).trans rfl; have hcz3_9 : w2.cell? ⟨gb140, 9, none⟩ = some (.int .u8 a0_9) := (blk_cell BK140.out 9).trans rfl; have hcz3_10 : w2.cell? ⟨gb140, 10, none⟩ = some (.slice A0_10 l0_10.length c0_10) := (blk_cell BK140.out 10).trans rfl; have hcz3_11 : w2.cell? ⟨gb140, 11, none⟩ = some (.int .i64 a0_11) := (blk_cell BK140.out 11).trans rfl; have hcz3_12 : w2.cell? ⟨gb140, 12, none⟩ = some (.int .i64 a0_12) := (blk_cell BK140.out 12).trans rfl; have hfz3_0 := blk_frozen BK140.out 0; have hfz3_1 := blk_frozen BK140.out 1; have hfz3_2 := blk_frozen BK140.out 2; have hfz3_3 := blk_frozen BK140.out 3; have hfz3_4 := blk_frozen BK140.out 4; have hfz3_5 := blk_frozen BK140.out 5; have hfz3_6 := blk_frozen BK140.out 6; have hfz3_7 := blk_frozen BK140.out 7; have hfz3_8 := blk_frozen BK140.out 8; have hfz3_9 := blk_frozen BK140.out 9; have hfz3_10 := blk_frozen BK140.out 10; have hfz3_11 := blk_frozen BK140.out 11; have hfz3_12 := blk_frozen BK140.out 12))
 go_ret
 exact ⟨by first | rfl | (simp [errW_none, errW_some] <;> rfl) | (simp [*, errW_none, errW_some] <;> rfl), by repeat (first | (with_reducible first | exact HB.out | apply below_alloc | apply pw_below_drewN | apply below_drew1 | refine below_set ?_ GE140.out) | exact HB.out)⟩

/-! ### api_Status_59: function 59 -/
def api_Status_59.l0 : Nat → List Int → Int → Int → Int → Option (Int)
 | 0, _, _, _, _ => none
 | k + 1, x0, x1, x7, x8 => if x8 < x7 then (if 0 ≤ x8 then (if x8 < (x0.length : Int) then (if x1 = (rd x0 x8) then (some x8) else (api_Status_59.l0 k x0 x1 x7 (wrap64 (x8 + 1)))) else (none)) else (none)) else (some (-1))
def api_Status_59.f (k : Nat) (l0 : List Int) (a1 : Int) : Option (Int) := api_Status_59.l0 k l0 a1 (l0.length : Int) 0
theorem api_Status_59.mono_l : ∀ k, (∀ y0 y1 y2 y3, LeO (api_Status_59.l0 k y0 y1 y2 y3) (api_Status_59.l0 (k + 1) y0 y1 y2 y3))
 | 0 => fun _ _ _ _ r h => by simp [api_Status_59.l0] at h
 | k + 1 => by
  have ih0 := api_Status_59.mono_l k
  ·
   intro y0 y1 y2 y3
   unfold api_Status_59.l0
   repeat' first
   | (with_reducible exact ih0 _ _ _ _)
   | (with_reducible exact LeO.refl _)
   | (with_reducible exact LeO.none _)
   | (with_reducible refine LeO.ite ?_ ?_)
   | (with_reducible refine LeO.bind ?_ (fun _ => ?_))
   | exact ih0 _ _ _ _
   | exact LeO.none _
   | refine LeO.ite ?_ ?_
   | refine LeO.bind ?_ (fun _ => ?_)
theorem api_Status_59.mono : ∀ a0 a1 k, LeO (api_Status_59.f k a0 a1) (api_Status_59.f (k + 1) a0 a1) := by
 intro a0 a1 k
 have ih0 := api_Status_59.mono_l k
 unfold api_Status_59.f
 repeat' first
   | (with_reducible exact ih0 _ _ _ _)
   | (with_reducible exact LeO.refl _)
   | (with_reducible exact LeO.none _)
   | (with_reducible refine LeO.ite ?_ ?_)
   | (with_reducible refine LeO.bind ?_ (fun _ => ?_))
   | exact ih0 _ _ _ _
   | exact LeO.none _
   | refine LeO.ite ?_ ?_
   | refine LeO.bind ?_ (fun _ => ?_)
set_option maxHeartbeats 8000000 in
set_option maxRecDepth 100000 in
theorem api_Status_59.calls (k : Nat) (A0 : Option Addr) (c0 : Nat) (l0 : List Int) (a1 : Int) (r : Int) (w : World) (hr0 : Kd.C (Kd.int .u8) w A0 l0.length l0) (hc0 : l0.length ≤ c0) (h : api_Status_59.f k l0 a1 = some r) :
  Calls Try.prog 59 #[.slice A0 l0.length c0, .int .u8 a1] w fun e w' => e = .returned (.int .i64 r) ∧ Drawn0 w w' := by
 have HR0 := Aside0.mk hr0
 have HC0 := Aside0.mk hc0
 clear hr0 hc0
 have H : (api_Status_59.l0 k l0 a1 (l0.length : Int) 0) = some r := h
 clear h
 have H' := Aside0.mk H
 clear H
 go_enter Try.func59, Try.ntmps59
 go_wp2
 go_loopg [8] k (fun kq v8 w' => ∃ (x8_1 : Int), v8 = .int .i64 x8_1 ∧ Aside0 (api_Status_59.l0 kq l0 a1 (l0.length : Int) x8_1 = some r) ∧ Aside0 (kq ≤ k) ∧ Drawn0 w w')
 case atStart => exact ⟨(0), (by first | rfl | (simp; done) | (simp [*]; done)), H', ⟨Nat.le_refl _⟩, by repeat (first | exact Drawn0.refl _ | apply Drawn0.step)⟩
 case round =>
  clear H'
  try clear p2
  obtain ⟨x8_1, rfl, HA, HK1, ⟨m1, rfl⟩⟩ := hrel
  cases gk with
  | zero => exact absurd HA.out (by simp [api_Status_59.l0])
  | succ k1 =>
   have H := HA.out
   clear HA
   simp only [api_Status_59.l0] at H
   by_cases c3 : x8_1 < (l0.length : Int)
   ·
    rw [if_pos c3] at H
    have c3b0 : decide (x8_1 < (l0.length : Int)) = true := decide_eq_true c3
    clear c3
    by_cases c4 : 0 ≤ x8_1
    ·
     rw [if_pos c4] at H
     have c4b0 : decide (0 ≤ x8_1) = true := decide_eq_true c4
     clear c4
     by_cases c5 : x8_1 < (l0.length : Int)
     ·
      rw [if_pos c5] at H
      have c5b0 : decide (x8_1 < (l0.length : Int)) = true := decide_eq_true c5
      clear c5
      by_cases c6 : a1 = (rd l0 x8_1)
      ·
       rw [if_pos c6] at H
       have c6b0 : (a1 == (rd l0 x8_1)) = true := beq_iff_eq.mpr c6
       have c6b1 : (a1 != (rd l0 x8_1)) = false := bne_eq_false_iff_eq.mpr c6
       clear c6
       obtain rfl := Option.some.inj H
       have p141 : 0 ≤ (x8_1 : Int) := of_decide_eq_true (by first | (with_reducible assumption) | assumption)
       have q141 : x8_1 < (l0.length : Int) := of_decide_eq_true (by first | (with_reducible assumption) | assumption)
       obtain ⟨ad141, e141, hx141_0⟩ := Kd.at_int HR0.out x8_1 p141 q141
       cases e141
       replace p141 := eq_true p141
       replace q141 := eq_true q141
       go_wp2
       go_ret
       exact ⟨by first | rfl | (simp; done) | (simp [*]; done), by repeat (first | exact Drawn0.refl _ | apply Drawn0.step)⟩
      ·
       rw [if_neg c6] at H
       have c6b0 : (a1 == (rd l0 x8_1)) = false := beq_eq_false_iff_ne.mpr c6
       have c6b1 : (a1 != (rd l0 x8_1)) = true := bne_iff_ne.mpr c6
       have H' := Aside0.mk H
       clear H
       have p141 : 0 ≤ (x8_1 : Int) := of_decide_eq_true (by first | (with_reducible assumption) | assumption)
       have q141 : x8_1 < (l0.length : Int) := of_decide_eq_true (by first | (with_reducible assumption) | assumption)
       obtain ⟨ad141, e141, hx141_0⟩ := Kd.at_int HR0.out x8_1 p141 q141
       cases e141
       replace p141 := eq_true p141
       replace q141 := eq_true q141
       go_wp2
       go_roundg k1
       case measure => have := HK1.out; omega
       case rel => exact ⟨(wrap64 (x8_1 + 1)), (by first | rfl | (simp; done) | (simp [*]; done)), H', ⟨by have := HK1.out; omega⟩, by repeat (first | exact Drawn0.refl _ | apply Drawn0.step)⟩
     ·
      rw [if_neg c5] at H
      exact absurd H (by simp)
    ·
     rw [if_neg c4] at H
     exact absurd H (by simp)
   ·
    rw [if_neg c3] at H
    have c3b0 : decide (x8_1 < (l0.length : Int)) = false := decide_eq_false c3
    clear c3
    obtain rfl := Option.some.inj H
    go_wp2
    go_ret
    exact ⟨by first | rfl | (simp; done) | (simp [*]; done), by repeat (first | exact Drawn0.refl _ | apply Drawn0.step)⟩

/-! ### api_Status_48: function 48 -/
def api_Status_48.f (k : Nat) (l0 : List Int) (a1 : Int) : Option (Bool) := (api_Status_59.f k l0 a1).bind fun t142 => (some (decide (t142 ≥ 0)))
theorem api_Status_48.mono : ∀ a0 a1 k, LeO (api_Status_48.f k a0 a1) (api_Status_48.f (k + 1) a0 a1) := by
 intro a0 a1 k
 unfold api_Status_48.f
 repeat' first
   | (with_reducible exact api_Status_59.mono _ _ _)
   | (with_reducible exact LeO.refl _)
   | (with_reducible exact LeO.none _)
   | (with_reducible refine LeO.ite ?_ ?_)
   | (with_reducible refine LeO.bind ?_ (fun _ => ?_))
   | exact api_Status_59.mono _ _ _
   | exact LeO.none _
   | refine LeO.ite ?_ ?_
   | refine LeO.bind ?_ (fun _ => ?_)
set_option maxHeartbeats 8000000 in
set_option maxRecDepth 100000 in
theorem api_Status_48.calls (k : Nat) (A0 : Option Addr) (c0 : Nat) (l0 : List Int) (a1 : Int) (r : Bool) (w : World) (hr0 : Kd.C (Kd.int .u8) w A0 l0.length l0) (hc0 : l0.length ≤ c0) (h : api_Status_48.f k l0 a1 = some r) :
  Calls Try.prog 48 #[.slice A0 l0.length c0, .int .u8 a1] w fun e w' => e = .returned (.bool r) ∧ Drawn0 w w' := by
 have HR0 := Aside0.mk hr0
 have HC0 := Aside0.mk hc0
 clear hr0 hc0
 have H : ((api_Status_59.f k l0 a1).bind fun t142 => (some (decide (t142 ≥ 0)))) = some r := h
 clear h
 replace H := Option.bind_eq_some_iff.mp H
 obtain ⟨t142, A30, H⟩ := H
 replace H : (some (decide (t142 ≥ 0))) = some r := H
 have A3 := Aside0.mk A30
 clear A30
 obtain rfl := Option.some.inj H
 go_enter Try.func48, Try.ntmps48
 go_wp2_with (first | ((with_reducible refine gate_callee (f := 59) rfl ?_); refine goesL_ (some 7) rfl rfl Try.func59 (by kernel_rfl) rfl #[.slice A0 l0.length c0, .int .u8 a1] rfl (by (try simp only [List.map_toArray, List.map_cons, List.map_nil]); first | done | rfl | (simp only [List.length_drop, List.length_take]; rfl)) ?_; (with_reducible refine (api_Status_59.calls k _ _ l0 a1 t142 _ ?side1 ?side2 A3.out).mono ?_); (case side1 => repeat (first | exact HR0.out | (with_reducible refine Kd.C_alloc ?_ _) | (with_reducible refine Kd.C_drewN ?_ _) | (with_reducible refine Kd.C_drew ?_))); (case side2 => exact HC0.out); rintro e w' ⟨rfl, ⟨nd, rfl⟩⟩; refine ⟨_, rfl, ?_⟩))
 go_ret
 exact ⟨by first | rfl | (simp; done) | (simp [*]; done), by repeat (first | exact Drawn0.refl _ | apply Drawn0.step)⟩

end Go.Proofs.Ytdjdbjcapenjeaa.P
