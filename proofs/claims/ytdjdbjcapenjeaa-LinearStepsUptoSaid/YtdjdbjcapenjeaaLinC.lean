/- What the document's answer, Play and Step of layer 14 answer (walked by hand). -/
import Derived.Test.YtdjdbjcapenjeaaLinB
import Derived.Test.YtdjdbjcapenjeaaPx3
namespace Go.Proofs.Ytdjdbjcapenjeaa.P
open Go.RowKit Go.Proofs.YtdjdbjcapenjeaaW.PrintWords Go.Proofs.YtdjdbjcapenjeaaW.PrintLast Go.Proofs.YtdjdbjcapenjeaaW.PrintMore
set_option linter.unusedVariables false
set_option linter.unusedSimpArgs false
theorem rd_get (l : List Int) (i : Int) (h : i.toNat < l.length) : rd l i = l[i.toNat] := by simp [rd, h]
theorem same14_l (l m : List Int) (hn : l.length < 4611686018427387904) (hl : l.length = m.length) : ∀ (d k : Nat) (i : Int), 0 ≤ i → (l.length : Int) - i = d → d < k → shardref14_same.l0 k l m i = some (decide (l.drop i.toNat = m.drop i.toNat)) := by
  intro d
  induction d with
  | zero =>
    intro k i h0 hd hk
    obtain ⟨k, rfl⟩ : ∃ m, k = m + 1 := ⟨k - 1, by omega⟩
    simp only [shardref14_same.l0]
    rw [if_neg (by omega), List.drop_of_length_le (by omega), List.drop_of_length_le (by omega)]
    simp
  | succ d ih =>
    intro k i h0 hd hk
    obtain ⟨k, rfl⟩ : ∃ m, k = m + 1 := ⟨k - 1, by omega⟩
    have h1 : i.toNat < l.length := by omega
    have h2 : i.toNat < m.length := by omega
    simp only [shardref14_same.l0]
    rw [if_pos (by omega), if_pos h0, if_pos (by omega), rd_get l i h1, rd_get m i h2]
    by_cases e : l[i.toNat] = m[i.toNat]
    · rw [if_pos e, show wrap64 (i + 1) = i + 1 from by unfold wrap64; omega, ih k (i + 1) (by omega) (by omega) (by omega), show (i + 1).toNat = i.toNat + 1 from by omega]
      have hiff : (l.drop i.toNat = m.drop i.toNat) ↔ (l.drop (i.toNat + 1) = m.drop (i.toNat + 1)) := by
        rw [List.drop_eq_getElem_cons h1, List.drop_eq_getElem_cons h2, e]
        exact ⟨fun h => (List.cons.inj h).2, fun h => by rw [h]⟩
      simp only [hiff]
    · rw [if_neg e]
      have hne : l.drop i.toNat ≠ m.drop i.toNat := by
        rw [List.drop_eq_getElem_cons h1, List.drop_eq_getElem_cons h2]
        exact fun h => e (List.cons.inj h).1
      simp only [hne, decide_false]
theorem same14_f (l m : List Int) (hn : l.length < 4611686018427387904) : shardref14_same.f (l.length + 1) l m = some (decide (l = m)) := by
  unfold shardref14_same.f
  by_cases hl : l.length = m.length
  · rw [if_pos (by omega), same14_l l m hn hl l.length _ 0 (Int.le_refl 0) (by omega) (by omega)]
    simp
  · rw [if_neg (by omega)]
    have : l ≠ m := fun e => hl (by rw [e])
    simp [this]
theorem same14_calls (b : Bool) (A0 : Option Addr) (c0 : Nat) (l0 : List Int) (A1 : Option Addr) (c1 : Nat) (l1 : List Int) (w : World) (hr0 : l0.length ≤ c0 ∧ Kd.C (Kd.int .u8) w A0 l0.length l0) (hr1 : l1.length ≤ c1 ∧ Kd.C (Kd.int .u8) w A1 l1.length l1)
    (hn : l0.length < 4611686018427387904) (hb : decide (l0 = l1) = b) : Calls Try.prog 47 #[.slice A0 l0.length c0, .slice A1 l1.length c1] w fun e w' => e = .returned (.bool b) ∧ Below w.heap.size w w' :=
  (shardref14_same.calls (l0.length + 1) A0 c0 l0 A1 c1 l1 b w hr0.2 hr0.1 hr1.2 hr1.1 (by rw [same14_f l0 l1 hn, hb])).mono fun e w' h => ⟨h.1, h.2.below⟩
def answerV (q : S27) (h : Bool) (l : List Int) : Int × Bool × List Int :=
  if q.f0 == 2 then (1, true, q.f3) else if q.f0 == 3 then (if h = true then (1, false, []) else (2, false, []))
  else if q.f0 == 4 then (if (h == q.f5) && (!h || decide (l = q.f4)) then (1, true, q.f3) else (3, h, l))
  else if h = true then (1, h, l) else (2, h, l)
set_option maxHeartbeats 8000000 in
set_option maxRecDepth 100000 in
theorem answer_set (q : S27) (A5 : Option Addr) (c5 : Nat) (A6 : Option Addr) (c6 : Nat) (xh : Bool) (Ax : Option Addr) (cx : Nat) (lx : List Int) (w : World) (g5 : q.f3.length ≤ c5 ∧ Kd.C (Kd.int .u8) w A5 q.f3.length q.f3) (g6 : q.f4.length ≤ c6 ∧ Kd.C (Kd.int .u8) w A6 q.f4.length q.f4) (gx : lx.length ≤ cx ∧ Kd.C (Kd.int .u8) w Ax lx.length lx) (hn : lx.length < 4611686018427387904) (f0 : (q.f0 == 2) = true) :
    Calls Try.prog 46 #[.agg #[.int .u8 q.f0, .int .u64 q.f1, .int .u64 q.f2, .slice A5 q.f3.length c5, .slice A6 q.f4.length c6, .bool q.f5, .int .u8 q.f6], .agg #[.bool xh, .slice Ax lx.length cx]] w fun e w' => e = .returned (.tuple #[.int .i64 1, .agg #[.bool true, .slice A5 q.f3.length c5]]) ∧ Below w.heap.size w w' := by
  have HB := Aside0.mk (Below.refl w.heap.size w)
  have G5 := Aside0.mk g5
  clear g5
  have G6 := Aside0.mk g6
  clear g6
  have GX := Aside0.mk gx
  clear gx
  have HN := Aside0.mk hn
  clear hn
  go_enter Try.func46, Try.ntmps46
  have hu := Try.underlying60
  have hu2 := Try.underlying27
  go_wp2_with (first | ((with_reducible refine gate_dst (N := 2) rfl ?_); (try (refine gate_guard (by rfl) ?_; dsimp only)); refine box_event (by rfl) (N := 2) (by rfl) (cs := #[.int .u8 q.f0, .int .u64 q.f1, .int .u64 q.f2, .slice A5 q.f3.length c5, .slice A6 q.f4.length c6, .bool q.f5, .int .u8 q.f6]) (t := 27) ?hrz2 ?_; (case hrz2 => first | (go_simp; done) | (go_simp; rfl)); intro gq hg_ wq1 hbox hb; have gq_G := gG_ hg_ HB; have gq_B := Aside0.mk hbox; obtain ⟨gq_0, gq_1, gq_2, gq_3, gq_4, gq_5, gq_6, gq_f0, gq_f1, gq_f2, gq_f3, gq_f4, gq_f5, gq_f6⟩ := cz7_ hbox; replace HB := Aside0.mk (below_step HB.out hb); clear hbox hb hg_) | ((with_reducible refine gate_dst (N := 3) rfl ?_); (try (refine gate_guard (by rfl) ?_; dsimp only)); refine box_event (by rfl) (N := 3) (by rfl) (cs := #[.bool xh, .slice Ax lx.length cx]) (t := 60) ?hrz4 ?_; (case hrz4 => first | (go_simp; done) | (go_simp; rfl)); intro gx hg_ wq3 hbox hb; have NE_gq_gx := nE1_ hg_ gq_B; have NE_gx_gq := nE2_ hg_ gq_B; have gx_G := gG_ hg_ HB; replace gq_B := Aside0.mk (blk_below gq_B.out hb); clear gq_0 gq_f0 gq_1 gq_f1 gq_2 gq_f2 gq_3 gq_f3 gq_4 gq_f4 gq_5 gq_f5 gq_6 gq_f6; obtain ⟨gq_0, gq_1, gq_2, gq_3, gq_4, gq_5, gq_6, gq_f0, gq_f1, gq_f2, gq_f3, gq_f4, gq_f5, gq_f6⟩ := cz7_ gq_B.out; have gx_B := Aside0.mk hbox; obtain ⟨gx_0, gx_1, gx_f0, gx_f1⟩ := cz2_ hbox; replace HB := Aside0.mk (below_step HB.out hb); clear hbox hb hg_) | ((with_reducible refine gate_dst (N := 5) rfl ?_); (try (refine gate_guard (by rfl) ?_; dsimp only)); refine box_event (by rfl) (N := 5) (by rfl) (cs := #[.bool false, .slice none 0 0]) (t := 60) ?hrz6 ?_; (case hrz6 => first | (go_simp; done) | (go_simp; rfl)); intro gr hg_ wq5 hbox hb; have NE_gq_gr := nE1_ hg_ gq_B; have NE_gr_gq := nE2_ hg_ gq_B; have NE_gx_gr := nE1_ hg_ gx_B; have NE_gr_gx := nE2_ hg_ gx_B; have gr_G := gG_ hg_ HB; replace gq_B := Aside0.mk (blk_below gq_B.out hb); clear gq_0 gq_f0 gq_1 gq_f1 gq_2 gq_f2 gq_3 gq_f3 gq_4 gq_f4 gq_5 gq_f5 gq_6 gq_f6; obtain ⟨gq_0, gq_1, gq_2, gq_3, gq_4, gq_5, gq_6, gq_f0, gq_f1, gq_f2, gq_f3, gq_f4, gq_f5, gq_f6⟩ := cz7_ gq_B.out; replace gx_B := Aside0.mk (blk_below gx_B.out hb); clear gx_0 gx_f0 gx_1 gx_f1; obtain ⟨gx_0, gx_1, gx_f0, gx_f1⟩ := cz2_ gx_B.out; have gr_B := Aside0.mk hbox; obtain ⟨gr_0, gr_1, gr_f0, gr_f1⟩ := cz2_ hbox; replace HB := Aside0.mk (below_step HB.out hb); clear hbox hb hg_) | ((with_reducible refine gate_dst (N := 6) rfl ?_); (try (refine gate_guard (by rfl) ?_; dsimp only)); refine box_event (by rfl) (N := 6) (by rfl) (cs := #[.bool false, .slice none 0 0]) (t := 60) ?hrz8 ?_; (case hrz8 => first | (go_simp; done) | (go_simp; rfl)); intro gs hg_ wq7 hbox hb; have NE_gq_gs := nE1_ hg_ gq_B; have NE_gs_gq := nE2_ hg_ gq_B; have NE_gx_gs := nE1_ hg_ gx_B; have NE_gs_gx := nE2_ hg_ gx_B; have NE_gr_gs := nE1_ hg_ gr_B; have NE_gs_gr := nE2_ hg_ gr_B; have gs_G := gG_ hg_ HB; replace gq_B := Aside0.mk (blk_below gq_B.out hb); clear gq_0 gq_f0 gq_1 gq_f1 gq_2 gq_f2 gq_3 gq_f3 gq_4 gq_f4 gq_5 gq_f5 gq_6 gq_f6; obtain ⟨gq_0, gq_1, gq_2, gq_3, gq_4, gq_5, gq_6, gq_f0, gq_f1, gq_f2, gq_f3, gq_f4, gq_f5, gq_f6⟩ := cz7_ gq_B.out; replace gx_B := Aside0.mk (blk_below gx_B.out hb); clear gx_0 gx_f0 gx_1 gx_f1; obtain ⟨gx_0, gx_1, gx_f0, gx_f1⟩ := cz2_ gx_B.out; replace gr_B := Aside0.mk (blk_below gr_B.out hb); clear gr_0 gr_f0 gr_1 gr_f1; obtain ⟨gr_0, gr_1, gr_f0, gr_f1⟩ := cz2_ gr_B.out; have gs_B := Aside0.mk hbox; obtain ⟨gs_0, gs_1, gs_f0, gs_f1⟩ := cz2_ hbox; replace HB := Aside0.mk (below_step HB.out hb); clear hbox hb hg_) | ((with_reducible refine gate_store (p := 6) rfl ?_); refine st_all (g := gs) 6 [.bool true, .slice A5 q.f3.length c5] ?ttz10 ?xxz10 ?uuz10 ?htz10 ?eez10 gs_B.out ?_; (case eez10 => and_intros <;> rfl); (case htz10 => kernel_rfl); intro wq9 hbox hO; replace gq_B := Aside0.mk (hO.blk NE_gq_gs.out gq_B.out); clear gq_0 gq_f0 gq_1 gq_f1 gq_2 gq_f2 gq_3 gq_f3 gq_4 gq_f4 gq_5 gq_f5 gq_6 gq_f6; obtain ⟨gq_0, gq_1, gq_2, gq_3, gq_4, gq_5, gq_6, gq_f0, gq_f1, gq_f2, gq_f3, gq_f4, gq_f5, gq_f6⟩ := cz7_ gq_B.out; replace gx_B := Aside0.mk (hO.blk NE_gx_gs.out gx_B.out); clear gx_0 gx_f0 gx_1 gx_f1; obtain ⟨gx_0, gx_1, gx_f0, gx_f1⟩ := cz2_ gx_B.out; replace gr_B := Aside0.mk (hO.blk NE_gr_gs.out gr_B.out); clear gr_0 gr_f0 gr_1 gr_f1; obtain ⟨gr_0, gr_1, gr_f0, gr_f1⟩ := cz2_ gr_B.out; clear gs_B; clear gs_0 gs_f0 gs_1 gs_f1; have gs_B := Aside0.mk hbox; obtain ⟨gs_0, gs_1, gs_f0, gs_f1⟩ := cz2_ hbox; replace HB := Aside0.mk (hO.below HB.out gs_G.out); clear hbox hO) | (go_at_call 47; refine (same14_calls true Ax cx lx A6 c6 q.f4 _ ?s0_z12 ?s1_z12 ?s2_z12 ?s3_z12).mono ?_; (case s0_z12 => with_reducible exact lC GX.out HB.out); (case s1_z12 => with_reducible exact lC G6.out HB.out); (case s2_z12 => exact HN.out); (case s3_z12 => exact HS.out); rintro e wq11 ⟨rfl, hb⟩; replace gq_B := Aside0.mk (blk_below gq_B.out hb); clear gq_0 gq_f0 gq_1 gq_f1 gq_2 gq_f2 gq_3 gq_f3 gq_4 gq_f4 gq_5 gq_f5 gq_6 gq_f6; obtain ⟨gq_0, gq_1, gq_2, gq_3, gq_4, gq_5, gq_6, gq_f0, gq_f1, gq_f2, gq_f3, gq_f4, gq_f5, gq_f6⟩ := cz7_ gq_B.out; replace gx_B := Aside0.mk (blk_below gx_B.out hb); clear gx_0 gx_f0 gx_1 gx_f1; obtain ⟨gx_0, gx_1, gx_f0, gx_f1⟩ := cz2_ gx_B.out; replace gr_B := Aside0.mk (blk_below gr_B.out hb); clear gr_0 gr_f0 gr_1 gr_f1; obtain ⟨gr_0, gr_1, gr_f0, gr_f1⟩ := cz2_ gr_B.out; replace gs_B := Aside0.mk (blk_below gs_B.out hb); clear gs_0 gs_f0 gs_1 gs_f1; obtain ⟨gs_0, gs_1, gs_f0, gs_f1⟩ := cz2_ gs_B.out; replace HB := Aside0.mk (below_step HB.out hb); clear hb))
  refine start_w (n := 3) (S := fun w' => w'.cell? ⟨gq, 0, none⟩ = some (.int .u8 q.f0) ∧ w'.cell? ⟨gq, 1, none⟩ = some (.int .u64 q.f1) ∧ w'.cell? ⟨gq, 2, none⟩ = some (.int .u64 q.f2) ∧ w'.cell? ⟨gq, 3, none⟩ = some (.slice A5 q.f3.length c5) ∧ w'.cell? ⟨gq, 4, none⟩ = some (.slice A6 q.f4.length c6) ∧ w'.cell? ⟨gq, 5, none⟩ = some (.bool q.f5) ∧ w'.cell? ⟨gq, 6, none⟩ = some (.int .u8 q.f6) ∧ w'.cell? ⟨gx, 0, none⟩ = some (.bool xh) ∧ w'.cell? ⟨gx, 1, none⟩ = some (.slice Ax lx.length cx) ∧ w'.cell? ⟨gs, 0, none⟩ = some (.bool true) ∧ w'.cell? ⟨gs, 1, none⟩ = some (.slice A5 q.f3.length c5)) (ds := []) #[false, false, false] (by kernel_rfl) rfl rfl ?_
  intro wq13 hb
  replace gq_B := Aside0.mk (blk_below gq_B.out hb)
  clear gq_0 gq_f0 gq_1 gq_f1 gq_2 gq_f2 gq_3 gq_f3 gq_4 gq_f4 gq_5 gq_f5 gq_6 gq_f6
  obtain ⟨gq_0, gq_1, gq_2, gq_3, gq_4, gq_5, gq_6, gq_f0, gq_f1, gq_f2, gq_f3, gq_f4, gq_f5, gq_f6⟩ := cz7_ gq_B.out
  replace gx_B := Aside0.mk (blk_below gx_B.out hb)
  clear gx_0 gx_f0 gx_1 gx_f1
  obtain ⟨gx_0, gx_1, gx_f0, gx_f1⟩ := cz2_ gx_B.out
  replace gr_B := Aside0.mk (blk_below gr_B.out hb)
  clear gr_0 gr_f0 gr_1 gr_f1
  obtain ⟨gr_0, gr_1, gr_f0, gr_f1⟩ := cz2_ gr_B.out
  replace gs_B := Aside0.mk (blk_below gs_B.out hb)
  clear gs_0 gs_f0 gs_1 gs_f1
  obtain ⟨gs_0, gs_1, gs_f0, gs_f1⟩ := cz2_ gs_B.out
  replace HB := Aside0.mk (below_step HB.out hb)
  clear hb
  refine pure_ (i := 1) (N := (some 4)) (v := ?_) (a' := ?_) #[false, true, false] rfl rfl (by kernel_rfl) (fun _ _ _ h => h) (Or.inl ⟨by rfl, ?_⟩) ?_ ?_
  rotate_left
  · intro w'; go_simp; with_reducible rfl
  rotate_left
  · simp only [Act.put, List.setIfInBounds_toArray, List.set_cons_zero, List.set_cons_succ, i64_w, i32_w]; rfl
  refine take_ (i := 0) (N := (some 14)) (v := ?_) (a' := ?_) #[true, true, false] rfl rfl (by kernel_rfl) (fun _ _ _ h => h) (Or.inl ⟨by rfl, ?_⟩) ⟨gq_0, gq_1, gq_2, gq_3, gq_4, gq_5, gq_6, gx_0, gx_1, gs_0, gs_1⟩ ?_ ?_
  rotate_left
  · rintro w' ⟨s_0, s_1, s_2, s_3, s_4, s_5, s_6, s_7, s_8, s_9, s_10⟩; go_simp; with_reducible rfl
  rotate_left
  · simp only [Act.put, List.setIfInBounds_toArray, List.set_cons_zero, List.set_cons_succ, i64_w, i32_w]; rfl
  refine one_ (i := 2) (N := none) #[true, true, true] rfl rfl (by kernel_rfl) (by decide) (fun K hK => ?_)
  refine st_allS (g := gr) 5 [.bool true, .slice A5 q.f3.length c5] ?ttz15 ?xxz15 ?uuz15 ?htz15 (by rfl) ?eez15 gr_B.out ?_
  (case eez15 => and_intros <;> rfl)
  (case htz15 => kernel_rfl)
  intro wq14 hbox hO
  replace gq_B := Aside0.mk (hO.blk NE_gq_gr.out gq_B.out)
  clear gq_0 gq_f0 gq_1 gq_f1 gq_2 gq_f2 gq_3 gq_f3 gq_4 gq_f4 gq_5 gq_f5 gq_6 gq_f6
  obtain ⟨gq_0, gq_1, gq_2, gq_3, gq_4, gq_5, gq_6, gq_f0, gq_f1, gq_f2, gq_f3, gq_f4, gq_f5, gq_f6⟩ := cz7_ gq_B.out
  replace gx_B := Aside0.mk (hO.blk NE_gx_gr.out gx_B.out)
  clear gx_0 gx_f0 gx_1 gx_f1
  obtain ⟨gx_0, gx_1, gx_f0, gx_f1⟩ := cz2_ gx_B.out
  replace gs_B := Aside0.mk (hO.blk NE_gs_gr.out gs_B.out)
  clear gs_0 gs_f0 gs_1 gs_f1
  obtain ⟨gs_0, gs_1, gs_f0, gs_f1⟩ := cz2_ gs_B.out
  clear gr_B
  clear gr_0 gr_f0 gr_1 gr_f1
  have gr_B := Aside0.mk hbox
  obtain ⟨gr_0, gr_1, gr_f0, gr_f1⟩ := cz2_ hbox
  replace HB := Aside0.mk (hO.below HB.out gr_G.out)
  clear hbox hO
  refine hK.out _ _ ⟨gq_0, gq_1, gq_2, gq_3, gq_4, gq_5, gq_6, gx_0, gx_1, gs_0, gs_1⟩ (fun _ => ?_)
  clear hK K
  refine norm_ (a' := ?_) ?_ ?_
  rotate_left
  · rfl
  refine done_ (by kernel_rfl) ?_
  go_wp2
  refine bodyPost_ret (results_tc rfl _ _ gr 60 #[.bool true, .slice A5 q.f3.length c5] (0, 0) _ rfl gr_B.out Try.underlying60 rfl (by kernel_rfl)) rfl ?_
  exact ⟨rfl, HB.out⟩
set_option maxHeartbeats 8000000 in
set_option maxRecDepth 100000 in
theorem answer_delt (q : S27) (A5 : Option Addr) (c5 : Nat) (A6 : Option Addr) (c6 : Nat) (Ax : Option Addr) (cx : Nat) (lx : List Int) (w : World) (g5 : q.f3.length ≤ c5 ∧ Kd.C (Kd.int .u8) w A5 q.f3.length q.f3) (g6 : q.f4.length ≤ c6 ∧ Kd.C (Kd.int .u8) w A6 q.f4.length q.f4) (gx : lx.length ≤ cx ∧ Kd.C (Kd.int .u8) w Ax lx.length lx) (hn : lx.length < 4611686018427387904) (f0 : (q.f0 == 2) = false) (f1 : (q.f0 == 3) = true) :
    Calls Try.prog 46 #[.agg #[.int .u8 q.f0, .int .u64 q.f1, .int .u64 q.f2, .slice A5 q.f3.length c5, .slice A6 q.f4.length c6, .bool q.f5, .int .u8 q.f6], .agg #[.bool true, .slice Ax lx.length cx]] w fun e w' => e = .returned (.tuple #[.int .i64 1, .agg #[.bool false, .slice none 0 0]]) ∧ Below w.heap.size w w' := by
  have HB := Aside0.mk (Below.refl w.heap.size w)
  have G5 := Aside0.mk g5
  clear g5
  have G6 := Aside0.mk g6
  clear g6
  have GX := Aside0.mk gx
  clear gx
  have HN := Aside0.mk hn
  clear hn
  go_enter Try.func46, Try.ntmps46
  have hu := Try.underlying60
  have hu2 := Try.underlying27
  go_wp2_with (first | ((with_reducible refine gate_dst (N := 2) rfl ?_); (try (refine gate_guard (by rfl) ?_; dsimp only)); refine box_event (by rfl) (N := 2) (by rfl) (cs := #[.int .u8 q.f0, .int .u64 q.f1, .int .u64 q.f2, .slice A5 q.f3.length c5, .slice A6 q.f4.length c6, .bool q.f5, .int .u8 q.f6]) (t := 27) ?hrz17 ?_; (case hrz17 => first | (go_simp; done) | (go_simp; rfl)); intro gq hg_ wq16 hbox hb; have gq_G := gG_ hg_ HB; have gq_B := Aside0.mk hbox; obtain ⟨gq_0, gq_1, gq_2, gq_3, gq_4, gq_5, gq_6, gq_f0, gq_f1, gq_f2, gq_f3, gq_f4, gq_f5, gq_f6⟩ := cz7_ hbox; replace HB := Aside0.mk (below_step HB.out hb); clear hbox hb hg_) | ((with_reducible refine gate_dst (N := 3) rfl ?_); (try (refine gate_guard (by rfl) ?_; dsimp only)); refine box_event (by rfl) (N := 3) (by rfl) (cs := #[.bool true, .slice Ax lx.length cx]) (t := 60) ?hrz19 ?_; (case hrz19 => first | (go_simp; done) | (go_simp; rfl)); intro gx hg_ wq18 hbox hb; have NE_gq_gx := nE1_ hg_ gq_B; have NE_gx_gq := nE2_ hg_ gq_B; have gx_G := gG_ hg_ HB; replace gq_B := Aside0.mk (blk_below gq_B.out hb); clear gq_0 gq_f0 gq_1 gq_f1 gq_2 gq_f2 gq_3 gq_f3 gq_4 gq_f4 gq_5 gq_f5 gq_6 gq_f6; obtain ⟨gq_0, gq_1, gq_2, gq_3, gq_4, gq_5, gq_6, gq_f0, gq_f1, gq_f2, gq_f3, gq_f4, gq_f5, gq_f6⟩ := cz7_ gq_B.out; have gx_B := Aside0.mk hbox; obtain ⟨gx_0, gx_1, gx_f0, gx_f1⟩ := cz2_ hbox; replace HB := Aside0.mk (below_step HB.out hb); clear hbox hb hg_) | ((with_reducible refine gate_dst (N := 5) rfl ?_); (try (refine gate_guard (by rfl) ?_; dsimp only)); refine box_event (by rfl) (N := 5) (by rfl) (cs := #[.bool false, .slice none 0 0]) (t := 60) ?hrz21 ?_; (case hrz21 => first | (go_simp; done) | (go_simp; rfl)); intro gr hg_ wq20 hbox hb; have NE_gq_gr := nE1_ hg_ gq_B; have NE_gr_gq := nE2_ hg_ gq_B; have NE_gx_gr := nE1_ hg_ gx_B; have NE_gr_gx := nE2_ hg_ gx_B; have gr_G := gG_ hg_ HB; replace gq_B := Aside0.mk (blk_below gq_B.out hb); clear gq_0 gq_f0 gq_1 gq_f1 gq_2 gq_f2 gq_3 gq_f3 gq_4 gq_f4 gq_5 gq_f5 gq_6 gq_f6; obtain ⟨gq_0, gq_1, gq_2, gq_3, gq_4, gq_5, gq_6, gq_f0, gq_f1, gq_f2, gq_f3, gq_f4, gq_f5, gq_f6⟩ := cz7_ gq_B.out; replace gx_B := Aside0.mk (blk_below gx_B.out hb); clear gx_0 gx_f0 gx_1 gx_f1; obtain ⟨gx_0, gx_1, gx_f0, gx_f1⟩ := cz2_ gx_B.out; have gr_B := Aside0.mk hbox; obtain ⟨gr_0, gr_1, gr_f0, gr_f1⟩ := cz2_ hbox; replace HB := Aside0.mk (below_step HB.out hb); clear hbox hb hg_) | ((with_reducible refine gate_dst (N := 6) rfl ?_); (try (refine gate_guard (by rfl) ?_; dsimp only)); refine box_event (by rfl) (N := 6) (by rfl) (cs := #[.bool false, .slice none 0 0]) (t := 60) ?hrz23 ?_; (case hrz23 => first | (go_simp; done) | (go_simp; rfl)); intro gs hg_ wq22 hbox hb; have NE_gq_gs := nE1_ hg_ gq_B; have NE_gs_gq := nE2_ hg_ gq_B; have NE_gx_gs := nE1_ hg_ gx_B; have NE_gs_gx := nE2_ hg_ gx_B; have NE_gr_gs := nE1_ hg_ gr_B; have NE_gs_gr := nE2_ hg_ gr_B; have gs_G := gG_ hg_ HB; replace gq_B := Aside0.mk (blk_below gq_B.out hb); clear gq_0 gq_f0 gq_1 gq_f1 gq_2 gq_f2 gq_3 gq_f3 gq_4 gq_f4 gq_5 gq_f5 gq_6 gq_f6; obtain ⟨gq_0, gq_1, gq_2, gq_3, gq_4, gq_5, gq_6, gq_f0, gq_f1, gq_f2, gq_f3, gq_f4, gq_f5, gq_f6⟩ := cz7_ gq_B.out; replace gx_B := Aside0.mk (blk_below gx_B.out hb); clear gx_0 gx_f0 gx_1 gx_f1; obtain ⟨gx_0, gx_1, gx_f0, gx_f1⟩ := cz2_ gx_B.out; replace gr_B := Aside0.mk (blk_below gr_B.out hb); clear gr_0 gr_f0 gr_1 gr_f1; obtain ⟨gr_0, gr_1, gr_f0, gr_f1⟩ := cz2_ gr_B.out; have gs_B := Aside0.mk hbox; obtain ⟨gs_0, gs_1, gs_f0, gs_f1⟩ := cz2_ hbox; replace HB := Aside0.mk (below_step HB.out hb); clear hbox hb hg_) | ((with_reducible refine gate_store (p := 6) rfl ?_); refine st_all (g := gs) 6 [.bool true, .slice A5 q.f3.length c5] ?ttz25 ?xxz25 ?uuz25 ?htz25 ?eez25 gs_B.out ?_; (case eez25 => and_intros <;> rfl); (case htz25 => kernel_rfl); intro wq24 hbox hO; replace gq_B := Aside0.mk (hO.blk NE_gq_gs.out gq_B.out); clear gq_0 gq_f0 gq_1 gq_f1 gq_2 gq_f2 gq_3 gq_f3 gq_4 gq_f4 gq_5 gq_f5 gq_6 gq_f6; obtain ⟨gq_0, gq_1, gq_2, gq_3, gq_4, gq_5, gq_6, gq_f0, gq_f1, gq_f2, gq_f3, gq_f4, gq_f5, gq_f6⟩ := cz7_ gq_B.out; replace gx_B := Aside0.mk (hO.blk NE_gx_gs.out gx_B.out); clear gx_0 gx_f0 gx_1 gx_f1; obtain ⟨gx_0, gx_1, gx_f0, gx_f1⟩ := cz2_ gx_B.out; replace gr_B := Aside0.mk (hO.blk NE_gr_gs.out gr_B.out); clear gr_0 gr_f0 gr_1 gr_f1; obtain ⟨gr_0, gr_1, gr_f0, gr_f1⟩ := cz2_ gr_B.out; clear gs_B; clear gs_0 gs_f0 gs_1 gs_f1; have gs_B := Aside0.mk hbox; obtain ⟨gs_0, gs_1, gs_f0, gs_f1⟩ := cz2_ hbox; replace HB := Aside0.mk (hO.below HB.out gs_G.out); clear hbox hO) | (go_at_call 47; refine (same14_calls true Ax cx lx A6 c6 q.f4 _ ?s0_z27 ?s1_z27 ?s2_z27 ?s3_z27).mono ?_; (case s0_z27 => with_reducible exact lC GX.out HB.out); (case s1_z27 => with_reducible exact lC G6.out HB.out); (case s2_z27 => exact HN.out); (case s3_z27 => exact HS.out); rintro e wq26 ⟨rfl, hb⟩; replace gq_B := Aside0.mk (blk_below gq_B.out hb); clear gq_0 gq_f0 gq_1 gq_f1 gq_2 gq_f2 gq_3 gq_f3 gq_4 gq_f4 gq_5 gq_f5 gq_6 gq_f6; obtain ⟨gq_0, gq_1, gq_2, gq_3, gq_4, gq_5, gq_6, gq_f0, gq_f1, gq_f2, gq_f3, gq_f4, gq_f5, gq_f6⟩ := cz7_ gq_B.out; replace gx_B := Aside0.mk (blk_below gx_B.out hb); clear gx_0 gx_f0 gx_1 gx_f1; obtain ⟨gx_0, gx_1, gx_f0, gx_f1⟩ := cz2_ gx_B.out; replace gr_B := Aside0.mk (blk_below gr_B.out hb); clear gr_0 gr_f0 gr_1 gr_f1; obtain ⟨gr_0, gr_1, gr_f0, gr_f1⟩ := cz2_ gr_B.out; replace gs_B := Aside0.mk (blk_below gs_B.out hb); clear gs_0 gs_f0 gs_1 gs_f1; obtain ⟨gs_0, gs_1, gs_f0, gs_f1⟩ := cz2_ gs_B.out; replace HB := Aside0.mk (below_step HB.out hb); clear hb) | ((with_reducible refine gate_store (p := 5) rfl ?_); refine st_all (g := gr) 5 [.bool false, .slice none 0 0] ?ttz29 ?xxz29 ?uuz29 ?htz29 ?eez29 gr_B.out ?_; (case eez29 => and_intros <;> rfl); (case htz29 => kernel_rfl); intro wq28 hbox hO; replace gq_B := Aside0.mk (hO.blk NE_gq_gr.out gq_B.out); clear gq_0 gq_f0 gq_1 gq_f1 gq_2 gq_f2 gq_3 gq_f3 gq_4 gq_f4 gq_5 gq_f5 gq_6 gq_f6; obtain ⟨gq_0, gq_1, gq_2, gq_3, gq_4, gq_5, gq_6, gq_f0, gq_f1, gq_f2, gq_f3, gq_f4, gq_f5, gq_f6⟩ := cz7_ gq_B.out; replace gx_B := Aside0.mk (hO.blk NE_gx_gr.out gx_B.out); clear gx_0 gx_f0 gx_1 gx_f1; obtain ⟨gx_0, gx_1, gx_f0, gx_f1⟩ := cz2_ gx_B.out; replace gs_B := Aside0.mk (hO.blk NE_gs_gr.out gs_B.out); clear gs_0 gs_f0 gs_1 gs_f1; obtain ⟨gs_0, gs_1, gs_f0, gs_f1⟩ := cz2_ gs_B.out; clear gr_B; clear gr_0 gr_f0 gr_1 gr_f1; have gr_B := Aside0.mk hbox; obtain ⟨gr_0, gr_1, gr_f0, gr_f1⟩ := cz2_ hbox; replace HB := Aside0.mk (hO.below HB.out gr_G.out); clear hbox hO))
  refine bodyPost_ret (results_tc rfl _ _ gr 60 #[.bool false, .slice none 0 0] (0, 0) _ rfl gr_B.out Try.underlying60 rfl (by kernel_rfl)) rfl ?_
  exact ⟨rfl, HB.out⟩
set_option maxHeartbeats 8000000 in
set_option maxRecDepth 100000 in
theorem answer_delf (q : S27) (A5 : Option Addr) (c5 : Nat) (A6 : Option Addr) (c6 : Nat) (Ax : Option Addr) (cx : Nat) (lx : List Int) (w : World) (g5 : q.f3.length ≤ c5 ∧ Kd.C (Kd.int .u8) w A5 q.f3.length q.f3) (g6 : q.f4.length ≤ c6 ∧ Kd.C (Kd.int .u8) w A6 q.f4.length q.f4) (gx : lx.length ≤ cx ∧ Kd.C (Kd.int .u8) w Ax lx.length lx) (hn : lx.length < 4611686018427387904) (f0 : (q.f0 == 2) = false) (f1 : (q.f0 == 3) = true) :
    Calls Try.prog 46 #[.agg #[.int .u8 q.f0, .int .u64 q.f1, .int .u64 q.f2, .slice A5 q.f3.length c5, .slice A6 q.f4.length c6, .bool q.f5, .int .u8 q.f6], .agg #[.bool false, .slice Ax lx.length cx]] w fun e w' => e = .returned (.tuple #[.int .i64 2, .agg #[.bool false, .slice none 0 0]]) ∧ Below w.heap.size w w' := by
  have HB := Aside0.mk (Below.refl w.heap.size w)
  have G5 := Aside0.mk g5
  clear g5
  have G6 := Aside0.mk g6
  clear g6
  have GX := Aside0.mk gx
  clear gx
  have HN := Aside0.mk hn
  clear hn
  go_enter Try.func46, Try.ntmps46
  have hu := Try.underlying60
  have hu2 := Try.underlying27
  go_wp2_with (first | ((with_reducible refine gate_dst (N := 2) rfl ?_); (try (refine gate_guard (by rfl) ?_; dsimp only)); refine box_event (by rfl) (N := 2) (by rfl) (cs := #[.int .u8 q.f0, .int .u64 q.f1, .int .u64 q.f2, .slice A5 q.f3.length c5, .slice A6 q.f4.length c6, .bool q.f5, .int .u8 q.f6]) (t := 27) ?hrz31 ?_; (case hrz31 => first | (go_simp; done) | (go_simp; rfl)); intro gq hg_ wq30 hbox hb; have gq_G := gG_ hg_ HB; have gq_B := Aside0.mk hbox; obtain ⟨gq_0, gq_1, gq_2, gq_3, gq_4, gq_5, gq_6, gq_f0, gq_f1, gq_f2, gq_f3, gq_f4, gq_f5, gq_f6⟩ := cz7_ hbox; replace HB := Aside0.mk (below_step HB.out hb); clear hbox hb hg_) | ((with_reducible refine gate_dst (N := 3) rfl ?_); (try (refine gate_guard (by rfl) ?_; dsimp only)); refine box_event (by rfl) (N := 3) (by rfl) (cs := #[.bool false, .slice Ax lx.length cx]) (t := 60) ?hrz33 ?_; (case hrz33 => first | (go_simp; done) | (go_simp; rfl)); intro gx hg_ wq32 hbox hb; have NE_gq_gx := nE1_ hg_ gq_B; have NE_gx_gq := nE2_ hg_ gq_B; have gx_G := gG_ hg_ HB; replace gq_B := Aside0.mk (blk_below gq_B.out hb); clear gq_0 gq_f0 gq_1 gq_f1 gq_2 gq_f2 gq_3 gq_f3 gq_4 gq_f4 gq_5 gq_f5 gq_6 gq_f6; obtain ⟨gq_0, gq_1, gq_2, gq_3, gq_4, gq_5, gq_6, gq_f0, gq_f1, gq_f2, gq_f3, gq_f4, gq_f5, gq_f6⟩ := cz7_ gq_B.out; have gx_B := Aside0.mk hbox; obtain ⟨gx_0, gx_1, gx_f0, gx_f1⟩ := cz2_ hbox; replace HB := Aside0.mk (below_step HB.out hb); clear hbox hb hg_) | ((with_reducible refine gate_dst (N := 5) rfl ?_); (try (refine gate_guard (by rfl) ?_; dsimp only)); refine box_event (by rfl) (N := 5) (by rfl) (cs := #[.bool false, .slice none 0 0]) (t := 60) ?hrz35 ?_; (case hrz35 => first | (go_simp; done) | (go_simp; rfl)); intro gr hg_ wq34 hbox hb; have NE_gq_gr := nE1_ hg_ gq_B; have NE_gr_gq := nE2_ hg_ gq_B; have NE_gx_gr := nE1_ hg_ gx_B; have NE_gr_gx := nE2_ hg_ gx_B; have gr_G := gG_ hg_ HB; replace gq_B := Aside0.mk (blk_below gq_B.out hb); clear gq_0 gq_f0 gq_1 gq_f1 gq_2 gq_f2 gq_3 gq_f3 gq_4 gq_f4 gq_5 gq_f5 gq_6 gq_f6; obtain ⟨gq_0, gq_1, gq_2, gq_3, gq_4, gq_5, gq_6, gq_f0, gq_f1, gq_f2, gq_f3, gq_f4, gq_f5, gq_f6⟩ := cz7_ gq_B.out; replace gx_B := Aside0.mk (blk_below gx_B.out hb); clear gx_0 gx_f0 gx_1 gx_f1; obtain ⟨gx_0, gx_1, gx_f0, gx_f1⟩ := cz2_ gx_B.out; have gr_B := Aside0.mk hbox; obtain ⟨gr_0, gr_1, gr_f0, gr_f1⟩ := cz2_ hbox; replace HB := Aside0.mk (below_step HB.out hb); clear hbox hb hg_) | ((with_reducible refine gate_dst (N := 6) rfl ?_); (try (refine gate_guard (by rfl) ?_; dsimp only)); refine box_event (by rfl) (N := 6) (by rfl) (cs := #[.bool false, .slice none 0 0]) (t := 60) ?hrz37 ?_; (case hrz37 => first | (go_simp; done) | (go_simp; rfl)); intro gs hg_ wq36 hbox hb; have NE_gq_gs := nE1_ hg_ gq_B; have NE_gs_gq := nE2_ hg_ gq_B; have NE_gx_gs := nE1_ hg_ gx_B; have NE_gs_gx := nE2_ hg_ gx_B; have NE_gr_gs := nE1_ hg_ gr_B; have NE_gs_gr := nE2_ hg_ gr_B; have gs_G := gG_ hg_ HB; replace gq_B := Aside0.mk (blk_below gq_B.out hb); clear gq_0 gq_f0 gq_1 gq_f1 gq_2 gq_f2 gq_3 gq_f3 gq_4 gq_f4 gq_5 gq_f5 gq_6 gq_f6; obtain ⟨gq_0, gq_1, gq_2, gq_3, gq_4, gq_5, gq_6, gq_f0, gq_f1, gq_f2, gq_f3, gq_f4, gq_f5, gq_f6⟩ := cz7_ gq_B.out; replace gx_B := Aside0.mk (blk_below gx_B.out hb); clear gx_0 gx_f0 gx_1 gx_f1; obtain ⟨gx_0, gx_1, gx_f0, gx_f1⟩ := cz2_ gx_B.out; replace gr_B := Aside0.mk (blk_below gr_B.out hb); clear gr_0 gr_f0 gr_1 gr_f1; obtain ⟨gr_0, gr_1, gr_f0, gr_f1⟩ := cz2_ gr_B.out; have gs_B := Aside0.mk hbox; obtain ⟨gs_0, gs_1, gs_f0, gs_f1⟩ := cz2_ hbox; replace HB := Aside0.mk (below_step HB.out hb); clear hbox hb hg_) | ((with_reducible refine gate_store (p := 6) rfl ?_); refine st_all (g := gs) 6 [.bool true, .slice A5 q.f3.length c5] ?ttz39 ?xxz39 ?uuz39 ?htz39 ?eez39 gs_B.out ?_; (case eez39 => and_intros <;> rfl); (case htz39 => kernel_rfl); intro wq38 hbox hO; replace gq_B := Aside0.mk (hO.blk NE_gq_gs.out gq_B.out); clear gq_0 gq_f0 gq_1 gq_f1 gq_2 gq_f2 gq_3 gq_f3 gq_4 gq_f4 gq_5 gq_f5 gq_6 gq_f6; obtain ⟨gq_0, gq_1, gq_2, gq_3, gq_4, gq_5, gq_6, gq_f0, gq_f1, gq_f2, gq_f3, gq_f4, gq_f5, gq_f6⟩ := cz7_ gq_B.out; replace gx_B := Aside0.mk (hO.blk NE_gx_gs.out gx_B.out); clear gx_0 gx_f0 gx_1 gx_f1; obtain ⟨gx_0, gx_1, gx_f0, gx_f1⟩ := cz2_ gx_B.out; replace gr_B := Aside0.mk (hO.blk NE_gr_gs.out gr_B.out); clear gr_0 gr_f0 gr_1 gr_f1; obtain ⟨gr_0, gr_1, gr_f0, gr_f1⟩ := cz2_ gr_B.out; clear gs_B; clear gs_0 gs_f0 gs_1 gs_f1; have gs_B := Aside0.mk hbox; obtain ⟨gs_0, gs_1, gs_f0, gs_f1⟩ := cz2_ hbox; replace HB := Aside0.mk (hO.below HB.out gs_G.out); clear hbox hO) | (go_at_call 47; refine (same14_calls true Ax cx lx A6 c6 q.f4 _ ?s0_z41 ?s1_z41 ?s2_z41 ?s3_z41).mono ?_; (case s0_z41 => with_reducible exact lC GX.out HB.out); (case s1_z41 => with_reducible exact lC G6.out HB.out); (case s2_z41 => exact HN.out); (case s3_z41 => exact HS.out); rintro e wq40 ⟨rfl, hb⟩; replace gq_B := Aside0.mk (blk_below gq_B.out hb); clear gq_0 gq_f0 gq_1 gq_f1 gq_2 gq_f2 gq_3 gq_f3 gq_4 gq_f4 gq_5 gq_f5 gq_6 gq_f6; obtain ⟨gq_0, gq_1, gq_2, gq_3, gq_4, gq_5, gq_6, gq_f0, gq_f1, gq_f2, gq_f3, gq_f4, gq_f5, gq_f6⟩ := cz7_ gq_B.out; replace gx_B := Aside0.mk (blk_below gx_B.out hb); clear gx_0 gx_f0 gx_1 gx_f1; obtain ⟨gx_0, gx_1, gx_f0, gx_f1⟩ := cz2_ gx_B.out; replace gr_B := Aside0.mk (blk_below gr_B.out hb); clear gr_0 gr_f0 gr_1 gr_f1; obtain ⟨gr_0, gr_1, gr_f0, gr_f1⟩ := cz2_ gr_B.out; replace gs_B := Aside0.mk (blk_below gs_B.out hb); clear gs_0 gs_f0 gs_1 gs_f1; obtain ⟨gs_0, gs_1, gs_f0, gs_f1⟩ := cz2_ gs_B.out; replace HB := Aside0.mk (below_step HB.out hb); clear hb) | ((with_reducible refine gate_store (p := 5) rfl ?_); refine st_all (g := gr) 5 [.bool false, .slice none 0 0] ?ttz43 ?xxz43 ?uuz43 ?htz43 ?eez43 gr_B.out ?_; (case eez43 => and_intros <;> rfl); (case htz43 => kernel_rfl); intro wq42 hbox hO; replace gq_B := Aside0.mk (hO.blk NE_gq_gr.out gq_B.out); clear gq_0 gq_f0 gq_1 gq_f1 gq_2 gq_f2 gq_3 gq_f3 gq_4 gq_f4 gq_5 gq_f5 gq_6 gq_f6; obtain ⟨gq_0, gq_1, gq_2, gq_3, gq_4, gq_5, gq_6, gq_f0, gq_f1, gq_f2, gq_f3, gq_f4, gq_f5, gq_f6⟩ := cz7_ gq_B.out; replace gx_B := Aside0.mk (hO.blk NE_gx_gr.out gx_B.out); clear gx_0 gx_f0 gx_1 gx_f1; obtain ⟨gx_0, gx_1, gx_f0, gx_f1⟩ := cz2_ gx_B.out; replace gs_B := Aside0.mk (hO.blk NE_gs_gr.out gs_B.out); clear gs_0 gs_f0 gs_1 gs_f1; obtain ⟨gs_0, gs_1, gs_f0, gs_f1⟩ := cz2_ gs_B.out; clear gr_B; clear gr_0 gr_f0 gr_1 gr_f1; have gr_B := Aside0.mk hbox; obtain ⟨gr_0, gr_1, gr_f0, gr_f1⟩ := cz2_ hbox; replace HB := Aside0.mk (hO.below HB.out gr_G.out); clear hbox hO))
  refine bodyPost_ret (results_tc rfl _ _ gr 60 #[.bool false, .slice none 0 0] (0, 0) _ rfl gr_B.out Try.underlying60 rfl (by kernel_rfl)) rfl ?_
  exact ⟨rfl, HB.out⟩
set_option maxHeartbeats 8000000 in
set_option maxRecDepth 100000 in
theorem answer_castf (q : S27) (A5 : Option Addr) (c5 : Nat) (A6 : Option Addr) (c6 : Nat) (Ax : Option Addr) (cx : Nat) (lx : List Int) (w : World) (g5 : q.f3.length ≤ c5 ∧ Kd.C (Kd.int .u8) w A5 q.f3.length q.f3) (g6 : q.f4.length ≤ c6 ∧ Kd.C (Kd.int .u8) w A6 q.f4.length q.f4) (gx : lx.length ≤ cx ∧ Kd.C (Kd.int .u8) w Ax lx.length lx) (hn : lx.length < 4611686018427387904) (f0 : (q.f0 == 2) = false) (f1 : (q.f0 == 3) = false) (f2 : (q.f0 == 4) = true) :
    Calls Try.prog 46 #[.agg #[.int .u8 q.f0, .int .u64 q.f1, .int .u64 q.f2, .slice A5 q.f3.length c5, .slice A6 q.f4.length c6, .bool false, .int .u8 q.f6], .agg #[.bool true, .slice Ax lx.length cx]] w fun e w' => e = .returned (.tuple #[.int .i64 3, .agg #[.bool true, .slice Ax lx.length cx]]) ∧ Below w.heap.size w w' := by
  have HB := Aside0.mk (Below.refl w.heap.size w)
  have G5 := Aside0.mk g5
  clear g5
  have G6 := Aside0.mk g6
  clear g6
  have GX := Aside0.mk gx
  clear gx
  have HN := Aside0.mk hn
  clear hn
  go_enter Try.func46, Try.ntmps46
  have hu := Try.underlying60
  have hu2 := Try.underlying27
  go_wp2_with (first | ((with_reducible refine gate_dst (N := 2) rfl ?_); (try (refine gate_guard (by rfl) ?_; dsimp only)); refine box_event (by rfl) (N := 2) (by rfl) (cs := #[.int .u8 q.f0, .int .u64 q.f1, .int .u64 q.f2, .slice A5 q.f3.length c5, .slice A6 q.f4.length c6, .bool false, .int .u8 q.f6]) (t := 27) ?hrz45 ?_; (case hrz45 => first | (go_simp; done) | (go_simp; rfl)); intro gq hg_ wq44 hbox hb; have gq_G := gG_ hg_ HB; have gq_B := Aside0.mk hbox; obtain ⟨gq_0, gq_1, gq_2, gq_3, gq_4, gq_5, gq_6, gq_f0, gq_f1, gq_f2, gq_f3, gq_f4, gq_f5, gq_f6⟩ := cz7_ hbox; replace HB := Aside0.mk (below_step HB.out hb); clear hbox hb hg_) | ((with_reducible refine gate_dst (N := 3) rfl ?_); (try (refine gate_guard (by rfl) ?_; dsimp only)); refine box_event (by rfl) (N := 3) (by rfl) (cs := #[.bool true, .slice Ax lx.length cx]) (t := 60) ?hrz47 ?_; (case hrz47 => first | (go_simp; done) | (go_simp; rfl)); intro gx hg_ wq46 hbox hb; have NE_gq_gx := nE1_ hg_ gq_B; have NE_gx_gq := nE2_ hg_ gq_B; have gx_G := gG_ hg_ HB; replace gq_B := Aside0.mk (blk_below gq_B.out hb); clear gq_0 gq_f0 gq_1 gq_f1 gq_2 gq_f2 gq_3 gq_f3 gq_4 gq_f4 gq_5 gq_f5 gq_6 gq_f6; obtain ⟨gq_0, gq_1, gq_2, gq_3, gq_4, gq_5, gq_6, gq_f0, gq_f1, gq_f2, gq_f3, gq_f4, gq_f5, gq_f6⟩ := cz7_ gq_B.out; have gx_B := Aside0.mk hbox; obtain ⟨gx_0, gx_1, gx_f0, gx_f1⟩ := cz2_ hbox; replace HB := Aside0.mk (below_step HB.out hb); clear hbox hb hg_) | ((with_reducible refine gate_dst (N := 5) rfl ?_); (try (refine gate_guard (by rfl) ?_; dsimp only)); refine box_event (by rfl) (N := 5) (by rfl) (cs := #[.bool false, .slice none 0 0]) (t := 60) ?hrz49 ?_; (case hrz49 => first | (go_simp; done) | (go_simp; rfl)); intro gr hg_ wq48 hbox hb; have NE_gq_gr := nE1_ hg_ gq_B; have NE_gr_gq := nE2_ hg_ gq_B; have NE_gx_gr := nE1_ hg_ gx_B; have NE_gr_gx := nE2_ hg_ gx_B; have gr_G := gG_ hg_ HB; replace gq_B := Aside0.mk (blk_below gq_B.out hb); clear gq_0 gq_f0 gq_1 gq_f1 gq_2 gq_f2 gq_3 gq_f3 gq_4 gq_f4 gq_5 gq_f5 gq_6 gq_f6; obtain ⟨gq_0, gq_1, gq_2, gq_3, gq_4, gq_5, gq_6, gq_f0, gq_f1, gq_f2, gq_f3, gq_f4, gq_f5, gq_f6⟩ := cz7_ gq_B.out; replace gx_B := Aside0.mk (blk_below gx_B.out hb); clear gx_0 gx_f0 gx_1 gx_f1; obtain ⟨gx_0, gx_1, gx_f0, gx_f1⟩ := cz2_ gx_B.out; have gr_B := Aside0.mk hbox; obtain ⟨gr_0, gr_1, gr_f0, gr_f1⟩ := cz2_ hbox; replace HB := Aside0.mk (below_step HB.out hb); clear hbox hb hg_) | ((with_reducible refine gate_dst (N := 6) rfl ?_); (try (refine gate_guard (by rfl) ?_; dsimp only)); refine box_event (by rfl) (N := 6) (by rfl) (cs := #[.bool false, .slice none 0 0]) (t := 60) ?hrz51 ?_; (case hrz51 => first | (go_simp; done) | (go_simp; rfl)); intro gs hg_ wq50 hbox hb; have NE_gq_gs := nE1_ hg_ gq_B; have NE_gs_gq := nE2_ hg_ gq_B; have NE_gx_gs := nE1_ hg_ gx_B; have NE_gs_gx := nE2_ hg_ gx_B; have NE_gr_gs := nE1_ hg_ gr_B; have NE_gs_gr := nE2_ hg_ gr_B; have gs_G := gG_ hg_ HB; replace gq_B := Aside0.mk (blk_below gq_B.out hb); clear gq_0 gq_f0 gq_1 gq_f1 gq_2 gq_f2 gq_3 gq_f3 gq_4 gq_f4 gq_5 gq_f5 gq_6 gq_f6; obtain ⟨gq_0, gq_1, gq_2, gq_3, gq_4, gq_5, gq_6, gq_f0, gq_f1, gq_f2, gq_f3, gq_f4, gq_f5, gq_f6⟩ := cz7_ gq_B.out; replace gx_B := Aside0.mk (blk_below gx_B.out hb); clear gx_0 gx_f0 gx_1 gx_f1; obtain ⟨gx_0, gx_1, gx_f0, gx_f1⟩ := cz2_ gx_B.out; replace gr_B := Aside0.mk (blk_below gr_B.out hb); clear gr_0 gr_f0 gr_1 gr_f1; obtain ⟨gr_0, gr_1, gr_f0, gr_f1⟩ := cz2_ gr_B.out; have gs_B := Aside0.mk hbox; obtain ⟨gs_0, gs_1, gs_f0, gs_f1⟩ := cz2_ hbox; replace HB := Aside0.mk (below_step HB.out hb); clear hbox hb hg_) | ((with_reducible refine gate_store (p := 6) rfl ?_); refine st_all (g := gs) 6 [.bool true, .slice A5 q.f3.length c5] ?ttz53 ?xxz53 ?uuz53 ?htz53 ?eez53 gs_B.out ?_; (case eez53 => and_intros <;> rfl); (case htz53 => kernel_rfl); intro wq52 hbox hO; replace gq_B := Aside0.mk (hO.blk NE_gq_gs.out gq_B.out); clear gq_0 gq_f0 gq_1 gq_f1 gq_2 gq_f2 gq_3 gq_f3 gq_4 gq_f4 gq_5 gq_f5 gq_6 gq_f6; obtain ⟨gq_0, gq_1, gq_2, gq_3, gq_4, gq_5, gq_6, gq_f0, gq_f1, gq_f2, gq_f3, gq_f4, gq_f5, gq_f6⟩ := cz7_ gq_B.out; replace gx_B := Aside0.mk (hO.blk NE_gx_gs.out gx_B.out); clear gx_0 gx_f0 gx_1 gx_f1; obtain ⟨gx_0, gx_1, gx_f0, gx_f1⟩ := cz2_ gx_B.out; replace gr_B := Aside0.mk (hO.blk NE_gr_gs.out gr_B.out); clear gr_0 gr_f0 gr_1 gr_f1; obtain ⟨gr_0, gr_1, gr_f0, gr_f1⟩ := cz2_ gr_B.out; clear gs_B; clear gs_0 gs_f0 gs_1 gs_f1; have gs_B := Aside0.mk hbox; obtain ⟨gs_0, gs_1, gs_f0, gs_f1⟩ := cz2_ hbox; replace HB := Aside0.mk (hO.below HB.out gs_G.out); clear hbox hO) | (go_at_call 47; refine (same14_calls true Ax cx lx A6 c6 q.f4 _ ?s0_z55 ?s1_z55 ?s2_z55 ?s3_z55).mono ?_; (case s0_z55 => with_reducible exact lC GX.out HB.out); (case s1_z55 => with_reducible exact lC G6.out HB.out); (case s2_z55 => exact HN.out); (case s3_z55 => exact HS.out); rintro e wq54 ⟨rfl, hb⟩; replace gq_B := Aside0.mk (blk_below gq_B.out hb); clear gq_0 gq_f0 gq_1 gq_f1 gq_2 gq_f2 gq_3 gq_f3 gq_4 gq_f4 gq_5 gq_f5 gq_6 gq_f6; obtain ⟨gq_0, gq_1, gq_2, gq_3, gq_4, gq_5, gq_6, gq_f0, gq_f1, gq_f2, gq_f3, gq_f4, gq_f5, gq_f6⟩ := cz7_ gq_B.out; replace gx_B := Aside0.mk (blk_below gx_B.out hb); clear gx_0 gx_f0 gx_1 gx_f1; obtain ⟨gx_0, gx_1, gx_f0, gx_f1⟩ := cz2_ gx_B.out; replace gr_B := Aside0.mk (blk_below gr_B.out hb); clear gr_0 gr_f0 gr_1 gr_f1; obtain ⟨gr_0, gr_1, gr_f0, gr_f1⟩ := cz2_ gr_B.out; replace gs_B := Aside0.mk (blk_below gs_B.out hb); clear gs_0 gs_f0 gs_1 gs_f1; obtain ⟨gs_0, gs_1, gs_f0, gs_f1⟩ := cz2_ gs_B.out; replace HB := Aside0.mk (below_step HB.out hb); clear hb))
  refine start_w (n := 3) (S := fun w' => w'.cell? ⟨gq, 0, none⟩ = some (.int .u8 q.f0) ∧ w'.cell? ⟨gq, 1, none⟩ = some (.int .u64 q.f1) ∧ w'.cell? ⟨gq, 2, none⟩ = some (.int .u64 q.f2) ∧ w'.cell? ⟨gq, 3, none⟩ = some (.slice A5 q.f3.length c5) ∧ w'.cell? ⟨gq, 4, none⟩ = some (.slice A6 q.f4.length c6) ∧ w'.cell? ⟨gq, 5, none⟩ = some (.bool false) ∧ w'.cell? ⟨gq, 6, none⟩ = some (.int .u8 q.f6) ∧ w'.cell? ⟨gx, 0, none⟩ = some (.bool true) ∧ w'.cell? ⟨gx, 1, none⟩ = some (.slice Ax lx.length cx) ∧ w'.cell? ⟨gs, 0, none⟩ = some (.bool true) ∧ w'.cell? ⟨gs, 1, none⟩ = some (.slice A5 q.f3.length c5)) (ds := []) #[false, false, false] (by kernel_rfl) rfl rfl ?_
  intro wq56 hb
  replace gq_B := Aside0.mk (blk_below gq_B.out hb)
  clear gq_0 gq_f0 gq_1 gq_f1 gq_2 gq_f2 gq_3 gq_f3 gq_4 gq_f4 gq_5 gq_f5 gq_6 gq_f6
  obtain ⟨gq_0, gq_1, gq_2, gq_3, gq_4, gq_5, gq_6, gq_f0, gq_f1, gq_f2, gq_f3, gq_f4, gq_f5, gq_f6⟩ := cz7_ gq_B.out
  replace gx_B := Aside0.mk (blk_below gx_B.out hb)
  clear gx_0 gx_f0 gx_1 gx_f1
  obtain ⟨gx_0, gx_1, gx_f0, gx_f1⟩ := cz2_ gx_B.out
  replace gr_B := Aside0.mk (blk_below gr_B.out hb)
  clear gr_0 gr_f0 gr_1 gr_f1
  obtain ⟨gr_0, gr_1, gr_f0, gr_f1⟩ := cz2_ gr_B.out
  replace gs_B := Aside0.mk (blk_below gs_B.out hb)
  clear gs_0 gs_f0 gs_1 gs_f1
  obtain ⟨gs_0, gs_1, gs_f0, gs_f1⟩ := cz2_ gs_B.out
  replace HB := Aside0.mk (below_step HB.out hb)
  clear hb
  refine pure_ (i := 1) (N := (some 4)) (v := ?_) (a' := ?_) #[false, true, false] rfl rfl (by kernel_rfl) (fun _ _ _ h => h) (Or.inl ⟨by rfl, ?_⟩) ?_ ?_
  rotate_left
  · intro w'; go_simp; with_reducible rfl
  rotate_left
  · simp only [Act.put, List.setIfInBounds_toArray, List.set_cons_zero, List.set_cons_succ, i64_w, i32_w]; rfl
  refine take_ (i := 0) (N := (some 41)) (v := ?_) (a' := ?_) #[true, true, false] rfl rfl (by kernel_rfl) (fun _ _ _ h => h) (Or.inl ⟨by rfl, ?_⟩) ⟨gq_0, gq_1, gq_2, gq_3, gq_4, gq_5, gq_6, gx_0, gx_1, gs_0, gs_1⟩ ?_ ?_
  rotate_left
  · rintro w' ⟨s_0, s_1, s_2, s_3, s_4, s_5, s_6, s_7, s_8, s_9, s_10⟩; go_simp; with_reducible rfl
  rotate_left
  · simp only [Act.put, List.setIfInBounds_toArray, List.set_cons_zero, List.set_cons_succ, i64_w, i32_w]; rfl
  refine one_ (i := 2) (N := none) #[true, true, true] rfl rfl (by kernel_rfl) (by decide) (fun K hK => ?_)
  refine st_allS (g := gr) 5 [.bool true, .slice Ax lx.length cx] ?ttz58 ?xxz58 ?uuz58 ?htz58 (by rfl) ?eez58 gr_B.out ?_
  (case eez58 => and_intros <;> rfl)
  (case htz58 => kernel_rfl)
  intro wq57 hbox hO
  replace gq_B := Aside0.mk (hO.blk NE_gq_gr.out gq_B.out)
  clear gq_0 gq_f0 gq_1 gq_f1 gq_2 gq_f2 gq_3 gq_f3 gq_4 gq_f4 gq_5 gq_f5 gq_6 gq_f6
  obtain ⟨gq_0, gq_1, gq_2, gq_3, gq_4, gq_5, gq_6, gq_f0, gq_f1, gq_f2, gq_f3, gq_f4, gq_f5, gq_f6⟩ := cz7_ gq_B.out
  replace gx_B := Aside0.mk (hO.blk NE_gx_gr.out gx_B.out)
  clear gx_0 gx_f0 gx_1 gx_f1
  obtain ⟨gx_0, gx_1, gx_f0, gx_f1⟩ := cz2_ gx_B.out
  replace gs_B := Aside0.mk (hO.blk NE_gs_gr.out gs_B.out)
  clear gs_0 gs_f0 gs_1 gs_f1
  obtain ⟨gs_0, gs_1, gs_f0, gs_f1⟩ := cz2_ gs_B.out
  clear gr_B
  clear gr_0 gr_f0 gr_1 gr_f1
  have gr_B := Aside0.mk hbox
  obtain ⟨gr_0, gr_1, gr_f0, gr_f1⟩ := cz2_ hbox
  replace HB := Aside0.mk (hO.below HB.out gr_G.out)
  clear hbox hO
  refine hK.out _ _ ⟨gq_0, gq_1, gq_2, gq_3, gq_4, gq_5, gq_6, gx_0, gx_1, gs_0, gs_1⟩ (fun _ => ?_)
  clear hK K
  refine norm_ (a' := ?_) ?_ ?_
  rotate_left
  · rfl
  refine done_ (by kernel_rfl) ?_
  go_wp2
  refine bodyPost_ret (results_tc rfl _ _ gr 60 #[.bool true, .slice Ax lx.length cx] (0, 0) _ rfl gr_B.out Try.underlying60 rfl (by kernel_rfl)) rfl ?_
  exact ⟨rfl, HB.out⟩
set_option maxHeartbeats 8000000 in
set_option maxRecDepth 100000 in
theorem answer_casft (q : S27) (A5 : Option Addr) (c5 : Nat) (A6 : Option Addr) (c6 : Nat) (Ax : Option Addr) (cx : Nat) (lx : List Int) (w : World) (g5 : q.f3.length ≤ c5 ∧ Kd.C (Kd.int .u8) w A5 q.f3.length q.f3) (g6 : q.f4.length ≤ c6 ∧ Kd.C (Kd.int .u8) w A6 q.f4.length q.f4) (gx : lx.length ≤ cx ∧ Kd.C (Kd.int .u8) w Ax lx.length lx) (hn : lx.length < 4611686018427387904) (f0 : (q.f0 == 2) = false) (f1 : (q.f0 == 3) = false) (f2 : (q.f0 == 4) = true) :
    Calls Try.prog 46 #[.agg #[.int .u8 q.f0, .int .u64 q.f1, .int .u64 q.f2, .slice A5 q.f3.length c5, .slice A6 q.f4.length c6, .bool true, .int .u8 q.f6], .agg #[.bool false, .slice Ax lx.length cx]] w fun e w' => e = .returned (.tuple #[.int .i64 3, .agg #[.bool false, .slice Ax lx.length cx]]) ∧ Below w.heap.size w w' := by
  have HB := Aside0.mk (Below.refl w.heap.size w)
  have G5 := Aside0.mk g5
  clear g5
  have G6 := Aside0.mk g6
  clear g6
  have GX := Aside0.mk gx
  clear gx
  have HN := Aside0.mk hn
  clear hn
  go_enter Try.func46, Try.ntmps46
  have hu := Try.underlying60
  have hu2 := Try.underlying27
  go_wp2_with (first | ((with_reducible refine gate_dst (N := 2) rfl ?_); (try (refine gate_guard (by rfl) ?_; dsimp only)); refine box_event (by rfl) (N := 2) (by rfl) (cs := #[.int .u8 q.f0, .int .u64 q.f1, .int .u64 q.f2, .slice A5 q.f3.length c5, .slice A6 q.f4.length c6, .bool true, .int .u8 q.f6]) (t := 27) ?hrz60 ?_; (case hrz60 => first | (go_simp; done) | (go_simp; rfl)); intro gq hg_ wq59 hbox hb; have gq_G := gG_ hg_ HB; have gq_B := Aside0.mk hbox; obtain ⟨gq_0, gq_1, gq_2, gq_3, gq_4, gq_5, gq_6, gq_f0, gq_f1, gq_f2, gq_f3, gq_f4, gq_f5, gq_f6⟩ := cz7_ hbox; replace HB := Aside0.mk (below_step HB.out hb); clear hbox hb hg_) | ((with_reducible refine gate_dst (N := 3) rfl ?_); (try (refine gate_guard (by rfl) ?_; dsimp only)); refine box_event (by rfl) (N := 3) (by rfl) (cs := #[.bool false, .slice Ax lx.length cx]) (t := 60) ?hrz62 ?_; (case hrz62 => first | (go_simp; done) | (go_simp; rfl)); intro gx hg_ wq61 hbox hb; have NE_gq_gx := nE1_ hg_ gq_B; have NE_gx_gq := nE2_ hg_ gq_B; have gx_G := gG_ hg_ HB; replace gq_B := Aside0.mk (blk_below gq_B.out hb); clear gq_0 gq_f0 gq_1 gq_f1 gq_2 gq_f2 gq_3 gq_f3 gq_4 gq_f4 gq_5 gq_f5 gq_6 gq_f6; obtain ⟨gq_0, gq_1, gq_2, gq_3, gq_4, gq_5, gq_6, gq_f0, gq_f1, gq_f2, gq_f3, gq_f4, gq_f5, gq_f6⟩ := cz7_ gq_B.out; have gx_B := Aside0.mk hbox; obtain ⟨gx_0, gx_1, gx_f0, gx_f1⟩ := cz2_ hbox; replace HB := Aside0.mk (below_step HB.out hb); clear hbox hb hg_) | ((with_reducible refine gate_dst (N := 5) rfl ?_); (try (refine gate_guard (by rfl) ?_; dsimp only)); refine box_event (by rfl) (N := 5) (by rfl) (cs := #[.bool false, .slice none 0 0]) (t := 60) ?hrz64 ?_; (case hrz64 => first | (go_simp; done) | (go_simp; rfl)); intro gr hg_ wq63 hbox hb; have NE_gq_gr := nE1_ hg_ gq_B; have NE_gr_gq := nE2_ hg_ gq_B; have NE_gx_gr := nE1_ hg_ gx_B; have NE_gr_gx := nE2_ hg_ gx_B; have gr_G := gG_ hg_ HB; replace gq_B := Aside0.mk (blk_below gq_B.out hb); clear gq_0 gq_f0 gq_1 gq_f1 gq_2 gq_f2 gq_3 gq_f3 gq_4 gq_f4 gq_5 gq_f5 gq_6 gq_f6; obtain ⟨gq_0, gq_1, gq_2, gq_3, gq_4, gq_5, gq_6, gq_f0, gq_f1, gq_f2, gq_f3, gq_f4, gq_f5, gq_f6⟩ := cz7_ gq_B.out; replace gx_B := Aside0.mk (blk_below gx_B.out hb); clear gx_0 gx_f0 gx_1 gx_f1; obtain ⟨gx_0, gx_1, gx_f0, gx_f1⟩ := cz2_ gx_B.out; have gr_B := Aside0.mk hbox; obtain ⟨gr_0, gr_1, gr_f0, gr_f1⟩ := cz2_ hbox; replace HB := Aside0.mk (below_step HB.out hb); clear hbox hb hg_) | ((with_reducible refine gate_dst (N := 6) rfl ?_); (try (refine gate_guard (by rfl) ?_; dsimp only)); refine box_event (by rfl) (N := 6) (by rfl) (cs := #[.bool false, .slice none 0 0]) (t := 60) ?hrz66 ?_; (case hrz66 => first | (go_simp; done) | (go_simp; rfl)); intro gs hg_ wq65 hbox hb; have NE_gq_gs := nE1_ hg_ gq_B; have NE_gs_gq := nE2_ hg_ gq_B; have NE_gx_gs := nE1_ hg_ gx_B; have NE_gs_gx := nE2_ hg_ gx_B; have NE_gr_gs := nE1_ hg_ gr_B; have NE_gs_gr := nE2_ hg_ gr_B; have gs_G := gG_ hg_ HB; replace gq_B := Aside0.mk (blk_below gq_B.out hb); clear gq_0 gq_f0 gq_1 gq_f1 gq_2 gq_f2 gq_3 gq_f3 gq_4 gq_f4 gq_5 gq_f5 gq_6 gq_f6; obtain ⟨gq_0, gq_1, gq_2, gq_3, gq_4, gq_5, gq_6, gq_f0, gq_f1, gq_f2, gq_f3, gq_f4, gq_f5, gq_f6⟩ := cz7_ gq_B.out; replace gx_B := Aside0.mk (blk_below gx_B.out hb); clear gx_0 gx_f0 gx_1 gx_f1; obtain ⟨gx_0, gx_1, gx_f0, gx_f1⟩ := cz2_ gx_B.out; replace gr_B := Aside0.mk (blk_below gr_B.out hb); clear gr_0 gr_f0 gr_1 gr_f1; obtain ⟨gr_0, gr_1, gr_f0, gr_f1⟩ := cz2_ gr_B.out; have gs_B := Aside0.mk hbox; obtain ⟨gs_0, gs_1, gs_f0, gs_f1⟩ := cz2_ hbox; replace HB := Aside0.mk (below_step HB.out hb); clear hbox hb hg_) | ((with_reducible refine gate_store (p := 6) rfl ?_); refine st_all (g := gs) 6 [.bool true, .slice A5 q.f3.length c5] ?ttz68 ?xxz68 ?uuz68 ?htz68 ?eez68 gs_B.out ?_; (case eez68 => and_intros <;> rfl); (case htz68 => kernel_rfl); intro wq67 hbox hO; replace gq_B := Aside0.mk (hO.blk NE_gq_gs.out gq_B.out); clear gq_0 gq_f0 gq_1 gq_f1 gq_2 gq_f2 gq_3 gq_f3 gq_4 gq_f4 gq_5 gq_f5 gq_6 gq_f6; obtain ⟨gq_0, gq_1, gq_2, gq_3, gq_4, gq_5, gq_6, gq_f0, gq_f1, gq_f2, gq_f3, gq_f4, gq_f5, gq_f6⟩ := cz7_ gq_B.out; replace gx_B := Aside0.mk (hO.blk NE_gx_gs.out gx_B.out); clear gx_0 gx_f0 gx_1 gx_f1; obtain ⟨gx_0, gx_1, gx_f0, gx_f1⟩ := cz2_ gx_B.out; replace gr_B := Aside0.mk (hO.blk NE_gr_gs.out gr_B.out); clear gr_0 gr_f0 gr_1 gr_f1; obtain ⟨gr_0, gr_1, gr_f0, gr_f1⟩ := cz2_ gr_B.out; clear gs_B; clear gs_0 gs_f0 gs_1 gs_f1; have gs_B := Aside0.mk hbox; obtain ⟨gs_0, gs_1, gs_f0, gs_f1⟩ := cz2_ hbox; replace HB := Aside0.mk (hO.below HB.out gs_G.out); clear hbox hO) | (go_at_call 47; refine (same14_calls true Ax cx lx A6 c6 q.f4 _ ?s0_z70 ?s1_z70 ?s2_z70 ?s3_z70).mono ?_; (case s0_z70 => with_reducible exact lC GX.out HB.out); (case s1_z70 => with_reducible exact lC G6.out HB.out); (case s2_z70 => exact HN.out); (case s3_z70 => exact HS.out); rintro e wq69 ⟨rfl, hb⟩; replace gq_B := Aside0.mk (blk_below gq_B.out hb); clear gq_0 gq_f0 gq_1 gq_f1 gq_2 gq_f2 gq_3 gq_f3 gq_4 gq_f4 gq_5 gq_f5 gq_6 gq_f6; obtain ⟨gq_0, gq_1, gq_2, gq_3, gq_4, gq_5, gq_6, gq_f0, gq_f1, gq_f2, gq_f3, gq_f4, gq_f5, gq_f6⟩ := cz7_ gq_B.out; replace gx_B := Aside0.mk (blk_below gx_B.out hb); clear gx_0 gx_f0 gx_1 gx_f1; obtain ⟨gx_0, gx_1, gx_f0, gx_f1⟩ := cz2_ gx_B.out; replace gr_B := Aside0.mk (blk_below gr_B.out hb); clear gr_0 gr_f0 gr_1 gr_f1; obtain ⟨gr_0, gr_1, gr_f0, gr_f1⟩ := cz2_ gr_B.out; replace gs_B := Aside0.mk (blk_below gs_B.out hb); clear gs_0 gs_f0 gs_1 gs_f1; obtain ⟨gs_0, gs_1, gs_f0, gs_f1⟩ := cz2_ gs_B.out; replace HB := Aside0.mk (below_step HB.out hb); clear hb))
  refine start_w (n := 3) (S := fun w' => w'.cell? ⟨gq, 0, none⟩ = some (.int .u8 q.f0) ∧ w'.cell? ⟨gq, 1, none⟩ = some (.int .u64 q.f1) ∧ w'.cell? ⟨gq, 2, none⟩ = some (.int .u64 q.f2) ∧ w'.cell? ⟨gq, 3, none⟩ = some (.slice A5 q.f3.length c5) ∧ w'.cell? ⟨gq, 4, none⟩ = some (.slice A6 q.f4.length c6) ∧ w'.cell? ⟨gq, 5, none⟩ = some (.bool true) ∧ w'.cell? ⟨gq, 6, none⟩ = some (.int .u8 q.f6) ∧ w'.cell? ⟨gx, 0, none⟩ = some (.bool false) ∧ w'.cell? ⟨gx, 1, none⟩ = some (.slice Ax lx.length cx) ∧ w'.cell? ⟨gs, 0, none⟩ = some (.bool true) ∧ w'.cell? ⟨gs, 1, none⟩ = some (.slice A5 q.f3.length c5)) (ds := []) #[false, false, false] (by kernel_rfl) rfl rfl ?_
  intro wq71 hb
  replace gq_B := Aside0.mk (blk_below gq_B.out hb)
  clear gq_0 gq_f0 gq_1 gq_f1 gq_2 gq_f2 gq_3 gq_f3 gq_4 gq_f4 gq_5 gq_f5 gq_6 gq_f6
  obtain ⟨gq_0, gq_1, gq_2, gq_3, gq_4, gq_5, gq_6, gq_f0, gq_f1, gq_f2, gq_f3, gq_f4, gq_f5, gq_f6⟩ := cz7_ gq_B.out
  replace gx_B := Aside0.mk (blk_below gx_B.out hb)
  clear gx_0 gx_f0 gx_1 gx_f1
  obtain ⟨gx_0, gx_1, gx_f0, gx_f1⟩ := cz2_ gx_B.out
  replace gr_B := Aside0.mk (blk_below gr_B.out hb)
  clear gr_0 gr_f0 gr_1 gr_f1
  obtain ⟨gr_0, gr_1, gr_f0, gr_f1⟩ := cz2_ gr_B.out
  replace gs_B := Aside0.mk (blk_below gs_B.out hb)
  clear gs_0 gs_f0 gs_1 gs_f1
  obtain ⟨gs_0, gs_1, gs_f0, gs_f1⟩ := cz2_ gs_B.out
  replace HB := Aside0.mk (below_step HB.out hb)
  clear hb
  refine pure_ (i := 1) (N := (some 4)) (v := ?_) (a' := ?_) #[false, true, false] rfl rfl (by kernel_rfl) (fun _ _ _ h => h) (Or.inl ⟨by rfl, ?_⟩) ?_ ?_
  rotate_left
  · intro w'; go_simp; with_reducible rfl
  rotate_left
  · simp only [Act.put, List.setIfInBounds_toArray, List.set_cons_zero, List.set_cons_succ, i64_w, i32_w]; rfl
  refine take_ (i := 0) (N := (some 41)) (v := ?_) (a' := ?_) #[true, true, false] rfl rfl (by kernel_rfl) (fun _ _ _ h => h) (Or.inl ⟨by rfl, ?_⟩) ⟨gq_0, gq_1, gq_2, gq_3, gq_4, gq_5, gq_6, gx_0, gx_1, gs_0, gs_1⟩ ?_ ?_
  rotate_left
  · rintro w' ⟨s_0, s_1, s_2, s_3, s_4, s_5, s_6, s_7, s_8, s_9, s_10⟩; go_simp; with_reducible rfl
  rotate_left
  · simp only [Act.put, List.setIfInBounds_toArray, List.set_cons_zero, List.set_cons_succ, i64_w, i32_w]; rfl
  refine one_ (i := 2) (N := none) #[true, true, true] rfl rfl (by kernel_rfl) (by decide) (fun K hK => ?_)
  refine st_allS (g := gr) 5 [.bool false, .slice Ax lx.length cx] ?ttz73 ?xxz73 ?uuz73 ?htz73 (by rfl) ?eez73 gr_B.out ?_
  (case eez73 => and_intros <;> rfl)
  (case htz73 => kernel_rfl)
  intro wq72 hbox hO
  replace gq_B := Aside0.mk (hO.blk NE_gq_gr.out gq_B.out)
  clear gq_0 gq_f0 gq_1 gq_f1 gq_2 gq_f2 gq_3 gq_f3 gq_4 gq_f4 gq_5 gq_f5 gq_6 gq_f6
  obtain ⟨gq_0, gq_1, gq_2, gq_3, gq_4, gq_5, gq_6, gq_f0, gq_f1, gq_f2, gq_f3, gq_f4, gq_f5, gq_f6⟩ := cz7_ gq_B.out
  replace gx_B := Aside0.mk (hO.blk NE_gx_gr.out gx_B.out)
  clear gx_0 gx_f0 gx_1 gx_f1
  obtain ⟨gx_0, gx_1, gx_f0, gx_f1⟩ := cz2_ gx_B.out
  replace gs_B := Aside0.mk (hO.blk NE_gs_gr.out gs_B.out)
  clear gs_0 gs_f0 gs_1 gs_f1
  obtain ⟨gs_0, gs_1, gs_f0, gs_f1⟩ := cz2_ gs_B.out
  clear gr_B
  clear gr_0 gr_f0 gr_1 gr_f1
  have gr_B := Aside0.mk hbox
  obtain ⟨gr_0, gr_1, gr_f0, gr_f1⟩ := cz2_ hbox
  replace HB := Aside0.mk (hO.below HB.out gr_G.out)
  clear hbox hO
  refine hK.out _ _ ⟨gq_0, gq_1, gq_2, gq_3, gq_4, gq_5, gq_6, gx_0, gx_1, gs_0, gs_1⟩ (fun _ => ?_)
  clear hK K
  refine norm_ (a' := ?_) ?_ ?_
  rotate_left
  · rfl
  refine done_ (by kernel_rfl) ?_
  go_wp2
  refine bodyPost_ret (results_tc rfl _ _ gr 60 #[.bool false, .slice Ax lx.length cx] (0, 0) _ rfl gr_B.out Try.underlying60 rfl (by kernel_rfl)) rfl ?_
  exact ⟨rfl, HB.out⟩
set_option maxHeartbeats 8000000 in
set_option maxRecDepth 100000 in
theorem answer_casff (q : S27) (A5 : Option Addr) (c5 : Nat) (A6 : Option Addr) (c6 : Nat) (Ax : Option Addr) (cx : Nat) (lx : List Int) (w : World) (g5 : q.f3.length ≤ c5 ∧ Kd.C (Kd.int .u8) w A5 q.f3.length q.f3) (g6 : q.f4.length ≤ c6 ∧ Kd.C (Kd.int .u8) w A6 q.f4.length q.f4) (gx : lx.length ≤ cx ∧ Kd.C (Kd.int .u8) w Ax lx.length lx) (hn : lx.length < 4611686018427387904) (f0 : (q.f0 == 2) = false) (f1 : (q.f0 == 3) = false) (f2 : (q.f0 == 4) = true) :
    Calls Try.prog 46 #[.agg #[.int .u8 q.f0, .int .u64 q.f1, .int .u64 q.f2, .slice A5 q.f3.length c5, .slice A6 q.f4.length c6, .bool false, .int .u8 q.f6], .agg #[.bool false, .slice Ax lx.length cx]] w fun e w' => e = .returned (.tuple #[.int .i64 1, .agg #[.bool true, .slice A5 q.f3.length c5]]) ∧ Below w.heap.size w w' := by
  have HB := Aside0.mk (Below.refl w.heap.size w)
  have G5 := Aside0.mk g5
  clear g5
  have G6 := Aside0.mk g6
  clear g6
  have GX := Aside0.mk gx
  clear gx
  have HN := Aside0.mk hn
  clear hn
  go_enter Try.func46, Try.ntmps46
  have hu := Try.underlying60
  have hu2 := Try.underlying27
  go_wp2_with (first | ((with_reducible refine gate_dst (N := 2) rfl ?_); (try (refine gate_guard (by rfl) ?_; dsimp only)); refine box_event (by rfl) (N := 2) (by rfl) (cs := #[.int .u8 q.f0, .int .u64 q.f1, .int .u64 q.f2, .slice A5 q.f3.length c5, .slice A6 q.f4.length c6, .bool false, .int .u8 q.f6]) (t := 27) ?hrz75 ?_; (case hrz75 => first | (go_simp; done) | (go_simp; rfl)); intro gq hg_ wq74 hbox hb; have gq_G := gG_ hg_ HB; have gq_B := Aside0.mk hbox; obtain ⟨gq_0, gq_1, gq_2, gq_3, gq_4, gq_5, gq_6, gq_f0, gq_f1, gq_f2, gq_f3, gq_f4, gq_f5, gq_f6⟩ := cz7_ hbox; replace HB := Aside0.mk (below_step HB.out hb); clear hbox hb hg_) | ((with_reducible refine gate_dst (N := 3) rfl ?_); (try (refine gate_guard (by rfl) ?_; dsimp only)); refine box_event (by rfl) (N := 3) (by rfl) (cs := #[.bool false, .slice Ax lx.length cx]) (t := 60) ?hrz77 ?_; (case hrz77 => first | (go_simp; done) | (go_simp; rfl)); intro gx hg_ wq76 hbox hb; have NE_gq_gx := nE1_ hg_ gq_B; have NE_gx_gq := nE2_ hg_ gq_B; have gx_G := gG_ hg_ HB; replace gq_B := Aside0.mk (blk_below gq_B.out hb); clear gq_0 gq_f0 gq_1 gq_f1 gq_2 gq_f2 gq_3 gq_f3 gq_4 gq_f4 gq_5 gq_f5 gq_6 gq_f6; obtain ⟨gq_0, gq_1, gq_2, gq_3, gq_4, gq_5, gq_6, gq_f0, gq_f1, gq_f2, gq_f3, gq_f4, gq_f5, gq_f6⟩ := cz7_ gq_B.out; have gx_B := Aside0.mk hbox; obtain ⟨gx_0, gx_1, gx_f0, gx_f1⟩ := cz2_ hbox; replace HB := Aside0.mk (below_step HB.out hb); clear hbox hb hg_) | ((with_reducible refine gate_dst (N := 5) rfl ?_); (try (refine gate_guard (by rfl) ?_; dsimp only)); refine box_event (by rfl) (N := 5) (by rfl) (cs := #[.bool false, .slice none 0 0]) (t := 60) ?hrz79 ?_; (case hrz79 => first | (go_simp; done) | (go_simp; rfl)); intro gr hg_ wq78 hbox hb; have NE_gq_gr := nE1_ hg_ gq_B; have NE_gr_gq := nE2_ hg_ gq_B; have NE_gx_gr := nE1_ hg_ gx_B; have NE_gr_gx := nE2_ hg_ gx_B; have gr_G := gG_ hg_ HB; replace gq_B := Aside0.mk (blk_below gq_B.out hb); clear gq_0 gq_f0 gq_1 gq_f1 gq_2 gq_f2 gq_3 gq_f3 gq_4 gq_f4 gq_5 gq_f5 gq_6 gq_f6; obtain ⟨gq_0, gq_1, gq_2, gq_3, gq_4, gq_5, gq_6, gq_f0, gq_f1, gq_f2, gq_f3, gq_f4, gq_f5, gq_f6⟩ := cz7_ gq_B.out; replace gx_B := Aside0.mk (blk_below gx_B.out hb); clear gx_0 gx_f0 gx_1 gx_f1; obtain ⟨gx_0, gx_1, gx_f0, gx_f1⟩ := cz2_ gx_B.out; have gr_B := Aside0.mk hbox; obtain ⟨gr_0, gr_1, gr_f0, gr_f1⟩ := cz2_ hbox; replace HB := Aside0.mk (below_step HB.out hb); clear hbox hb hg_) | ((with_reducible refine gate_dst (N := 6) rfl ?_); (try (refine gate_guard (by rfl) ?_; dsimp only)); refine box_event (by rfl) (N := 6) (by rfl) (cs := #[.bool false, .slice none 0 0]) (t := 60) ?hrz81 ?_; (case hrz81 => first | (go_simp; done) | (go_simp; rfl)); intro gs hg_ wq80 hbox hb; have NE_gq_gs := nE1_ hg_ gq_B; have NE_gs_gq := nE2_ hg_ gq_B; have NE_gx_gs := nE1_ hg_ gx_B; have NE_gs_gx := nE2_ hg_ gx_B; have NE_gr_gs := nE1_ hg_ gr_B; have NE_gs_gr := nE2_ hg_ gr_B; have gs_G := gG_ hg_ HB; replace gq_B := Aside0.mk (blk_below gq_B.out hb); clear gq_0 gq_f0 gq_1 gq_f1 gq_2 gq_f2 gq_3 gq_f3 gq_4 gq_f4 gq_5 gq_f5 gq_6 gq_f6; obtain ⟨gq_0, gq_1, gq_2, gq_3, gq_4, gq_5, gq_6, gq_f0, gq_f1, gq_f2, gq_f3, gq_f4, gq_f5, gq_f6⟩ := cz7_ gq_B.out; replace gx_B := Aside0.mk (blk_below gx_B.out hb); clear gx_0 gx_f0 gx_1 gx_f1; obtain ⟨gx_0, gx_1, gx_f0, gx_f1⟩ := cz2_ gx_B.out; replace gr_B := Aside0.mk (blk_below gr_B.out hb); clear gr_0 gr_f0 gr_1 gr_f1; obtain ⟨gr_0, gr_1, gr_f0, gr_f1⟩ := cz2_ gr_B.out; have gs_B := Aside0.mk hbox; obtain ⟨gs_0, gs_1, gs_f0, gs_f1⟩ := cz2_ hbox; replace HB := Aside0.mk (below_step HB.out hb); clear hbox hb hg_) | ((with_reducible refine gate_store (p := 6) rfl ?_); refine st_all (g := gs) 6 [.bool true, .slice A5 q.f3.length c5] ?ttz83 ?xxz83 ?uuz83 ?htz83 ?eez83 gs_B.out ?_; (case eez83 => and_intros <;> rfl); (case htz83 => kernel_rfl); intro wq82 hbox hO; replace gq_B := Aside0.mk (hO.blk NE_gq_gs.out gq_B.out); clear gq_0 gq_f0 gq_1 gq_f1 gq_2 gq_f2 gq_3 gq_f3 gq_4 gq_f4 gq_5 gq_f5 gq_6 gq_f6; obtain ⟨gq_0, gq_1, gq_2, gq_3, gq_4, gq_5, gq_6, gq_f0, gq_f1, gq_f2, gq_f3, gq_f4, gq_f5, gq_f6⟩ := cz7_ gq_B.out; replace gx_B := Aside0.mk (hO.blk NE_gx_gs.out gx_B.out); clear gx_0 gx_f0 gx_1 gx_f1; obtain ⟨gx_0, gx_1, gx_f0, gx_f1⟩ := cz2_ gx_B.out; replace gr_B := Aside0.mk (hO.blk NE_gr_gs.out gr_B.out); clear gr_0 gr_f0 gr_1 gr_f1; obtain ⟨gr_0, gr_1, gr_f0, gr_f1⟩ := cz2_ gr_B.out; clear gs_B; clear gs_0 gs_f0 gs_1 gs_f1; have gs_B := Aside0.mk hbox; obtain ⟨gs_0, gs_1, gs_f0, gs_f1⟩ := cz2_ hbox; replace HB := Aside0.mk (hO.below HB.out gs_G.out); clear hbox hO) | (go_at_call 47; refine (same14_calls true Ax cx lx A6 c6 q.f4 _ ?s0_z85 ?s1_z85 ?s2_z85 ?s3_z85).mono ?_; (case s0_z85 => with_reducible exact lC GX.out HB.out); (case s1_z85 => with_reducible exact lC G6.out HB.out); (case s2_z85 => exact HN.out); (case s3_z85 => exact HS.out); rintro e wq84 ⟨rfl, hb⟩; replace gq_B := Aside0.mk (blk_below gq_B.out hb); clear gq_0 gq_f0 gq_1 gq_f1 gq_2 gq_f2 gq_3 gq_f3 gq_4 gq_f4 gq_5 gq_f5 gq_6 gq_f6; obtain ⟨gq_0, gq_1, gq_2, gq_3, gq_4, gq_5, gq_6, gq_f0, gq_f1, gq_f2, gq_f3, gq_f4, gq_f5, gq_f6⟩ := cz7_ gq_B.out; replace gx_B := Aside0.mk (blk_below gx_B.out hb); clear gx_0 gx_f0 gx_1 gx_f1; obtain ⟨gx_0, gx_1, gx_f0, gx_f1⟩ := cz2_ gx_B.out; replace gr_B := Aside0.mk (blk_below gr_B.out hb); clear gr_0 gr_f0 gr_1 gr_f1; obtain ⟨gr_0, gr_1, gr_f0, gr_f1⟩ := cz2_ gr_B.out; replace gs_B := Aside0.mk (blk_below gs_B.out hb); clear gs_0 gs_f0 gs_1 gs_f1; obtain ⟨gs_0, gs_1, gs_f0, gs_f1⟩ := cz2_ gs_B.out; replace HB := Aside0.mk (below_step HB.out hb); clear hb))
  refine start_w (n := 3) (S := fun w' => w'.cell? ⟨gq, 0, none⟩ = some (.int .u8 q.f0) ∧ w'.cell? ⟨gq, 1, none⟩ = some (.int .u64 q.f1) ∧ w'.cell? ⟨gq, 2, none⟩ = some (.int .u64 q.f2) ∧ w'.cell? ⟨gq, 3, none⟩ = some (.slice A5 q.f3.length c5) ∧ w'.cell? ⟨gq, 4, none⟩ = some (.slice A6 q.f4.length c6) ∧ w'.cell? ⟨gq, 5, none⟩ = some (.bool false) ∧ w'.cell? ⟨gq, 6, none⟩ = some (.int .u8 q.f6) ∧ w'.cell? ⟨gx, 0, none⟩ = some (.bool false) ∧ w'.cell? ⟨gx, 1, none⟩ = some (.slice Ax lx.length cx) ∧ w'.cell? ⟨gs, 0, none⟩ = some (.bool true) ∧ w'.cell? ⟨gs, 1, none⟩ = some (.slice A5 q.f3.length c5)) (ds := []) #[false, false, false] (by kernel_rfl) rfl rfl ?_
  intro wq86 hb
  replace gq_B := Aside0.mk (blk_below gq_B.out hb)
  clear gq_0 gq_f0 gq_1 gq_f1 gq_2 gq_f2 gq_3 gq_f3 gq_4 gq_f4 gq_5 gq_f5 gq_6 gq_f6
  obtain ⟨gq_0, gq_1, gq_2, gq_3, gq_4, gq_5, gq_6, gq_f0, gq_f1, gq_f2, gq_f3, gq_f4, gq_f5, gq_f6⟩ := cz7_ gq_B.out
  replace gx_B := Aside0.mk (blk_below gx_B.out hb)
  clear gx_0 gx_f0 gx_1 gx_f1
  obtain ⟨gx_0, gx_1, gx_f0, gx_f1⟩ := cz2_ gx_B.out
  replace gr_B := Aside0.mk (blk_below gr_B.out hb)
  clear gr_0 gr_f0 gr_1 gr_f1
  obtain ⟨gr_0, gr_1, gr_f0, gr_f1⟩ := cz2_ gr_B.out
  replace gs_B := Aside0.mk (blk_below gs_B.out hb)
  clear gs_0 gs_f0 gs_1 gs_f1
  obtain ⟨gs_0, gs_1, gs_f0, gs_f1⟩ := cz2_ gs_B.out
  replace HB := Aside0.mk (below_step HB.out hb)
  clear hb
  refine pure_ (i := 1) (N := (some 4)) (v := ?_) (a' := ?_) #[false, true, false] rfl rfl (by kernel_rfl) (fun _ _ _ h => h) (Or.inl ⟨by rfl, ?_⟩) ?_ ?_
  rotate_left
  · intro w'; go_simp; with_reducible rfl
  rotate_left
  · simp only [Act.put, List.setIfInBounds_toArray, List.set_cons_zero, List.set_cons_succ, i64_w, i32_w]; rfl
  refine take_ (i := 0) (N := (some 40)) (v := ?_) (a' := ?_) #[true, true, false] rfl rfl (by kernel_rfl) (fun _ _ _ h => h) (Or.inl ⟨by rfl, ?_⟩) ⟨gq_0, gq_1, gq_2, gq_3, gq_4, gq_5, gq_6, gx_0, gx_1, gs_0, gs_1⟩ ?_ ?_
  rotate_left
  · rintro w' ⟨s_0, s_1, s_2, s_3, s_4, s_5, s_6, s_7, s_8, s_9, s_10⟩; go_simp; with_reducible rfl
  rotate_left
  · simp only [Act.put, List.setIfInBounds_toArray, List.set_cons_zero, List.set_cons_succ, i64_w, i32_w]; rfl
  refine one_ (i := 2) (N := none) #[true, true, true] rfl rfl (by kernel_rfl) (by decide) (fun K hK => ?_)
  refine st_allS (g := gr) 5 [.bool true, .slice A5 q.f3.length c5] ?ttz88 ?xxz88 ?uuz88 ?htz88 (by rfl) ?eez88 gr_B.out ?_
  (case eez88 => and_intros <;> rfl)
  (case htz88 => kernel_rfl)
  intro wq87 hbox hO
  replace gq_B := Aside0.mk (hO.blk NE_gq_gr.out gq_B.out)
  clear gq_0 gq_f0 gq_1 gq_f1 gq_2 gq_f2 gq_3 gq_f3 gq_4 gq_f4 gq_5 gq_f5 gq_6 gq_f6
  obtain ⟨gq_0, gq_1, gq_2, gq_3, gq_4, gq_5, gq_6, gq_f0, gq_f1, gq_f2, gq_f3, gq_f4, gq_f5, gq_f6⟩ := cz7_ gq_B.out
  replace gx_B := Aside0.mk (hO.blk NE_gx_gr.out gx_B.out)
  clear gx_0 gx_f0 gx_1 gx_f1
  obtain ⟨gx_0, gx_1, gx_f0, gx_f1⟩ := cz2_ gx_B.out
  replace gs_B := Aside0.mk (hO.blk NE_gs_gr.out gs_B.out)
  clear gs_0 gs_f0 gs_1 gs_f1
  obtain ⟨gs_0, gs_1, gs_f0, gs_f1⟩ := cz2_ gs_B.out
  clear gr_B
  clear gr_0 gr_f0 gr_1 gr_f1
  have gr_B := Aside0.mk hbox
  obtain ⟨gr_0, gr_1, gr_f0, gr_f1⟩ := cz2_ hbox
  replace HB := Aside0.mk (hO.below HB.out gr_G.out)
  clear hbox hO
  refine hK.out _ _ ⟨gq_0, gq_1, gq_2, gq_3, gq_4, gq_5, gq_6, gx_0, gx_1, gs_0, gs_1⟩ (fun _ => ?_)
  clear hK K
  refine norm_ (a' := ?_) ?_ ?_
  rotate_left
  · rfl
  refine done_ (by kernel_rfl) ?_
  go_wp2
  refine bodyPost_ret (results_tc rfl _ _ gr 60 #[.bool true, .slice A5 q.f3.length c5] (0, 0) _ rfl gr_B.out Try.underlying60 rfl (by kernel_rfl)) rfl ?_
  exact ⟨rfl, HB.out⟩
set_option maxHeartbeats 8000000 in
set_option maxRecDepth 100000 in
theorem answer_cassame (q : S27) (A5 : Option Addr) (c5 : Nat) (A6 : Option Addr) (c6 : Nat) (Ax : Option Addr) (cx : Nat) (lx : List Int) (w : World) (g5 : q.f3.length ≤ c5 ∧ Kd.C (Kd.int .u8) w A5 q.f3.length q.f3) (g6 : q.f4.length ≤ c6 ∧ Kd.C (Kd.int .u8) w A6 q.f4.length q.f4) (gx : lx.length ≤ cx ∧ Kd.C (Kd.int .u8) w Ax lx.length lx) (hn : lx.length < 4611686018427387904) (f0 : (q.f0 == 2) = false) (f1 : (q.f0 == 3) = false) (f2 : (q.f0 == 4) = true) (hs : decide (lx = q.f4) = true) :
    Calls Try.prog 46 #[.agg #[.int .u8 q.f0, .int .u64 q.f1, .int .u64 q.f2, .slice A5 q.f3.length c5, .slice A6 q.f4.length c6, .bool true, .int .u8 q.f6], .agg #[.bool true, .slice Ax lx.length cx]] w fun e w' => e = .returned (.tuple #[.int .i64 1, .agg #[.bool true, .slice A5 q.f3.length c5]]) ∧ Below w.heap.size w w' := by
  have HB := Aside0.mk (Below.refl w.heap.size w)
  have G5 := Aside0.mk g5
  clear g5
  have G6 := Aside0.mk g6
  clear g6
  have GX := Aside0.mk gx
  clear gx
  have HN := Aside0.mk hn
  clear hn
  have HS := Aside0.mk hs
  clear hs
  go_enter Try.func46, Try.ntmps46
  have hu := Try.underlying60
  have hu2 := Try.underlying27
  go_wp2_with (first | ((with_reducible refine gate_dst (N := 2) rfl ?_); (try (refine gate_guard (by rfl) ?_; dsimp only)); refine box_event (by rfl) (N := 2) (by rfl) (cs := #[.int .u8 q.f0, .int .u64 q.f1, .int .u64 q.f2, .slice A5 q.f3.length c5, .slice A6 q.f4.length c6, .bool true, .int .u8 q.f6]) (t := 27) ?hrz90 ?_; (case hrz90 => first | (go_simp; done) | (go_simp; rfl)); intro gq hg_ wq89 hbox hb; have gq_G := gG_ hg_ HB; have gq_B := Aside0.mk hbox; obtain ⟨gq_0, gq_1, gq_2, gq_3, gq_4, gq_5, gq_6, gq_f0, gq_f1, gq_f2, gq_f3, gq_f4, gq_f5, gq_f6⟩ := cz7_ hbox; replace HB := Aside0.mk (below_step HB.out hb); clear hbox hb hg_) | ((with_reducible refine gate_dst (N := 3) rfl ?_); (try (refine gate_guard (by rfl) ?_; dsimp only)); refine box_event (by rfl) (N := 3) (by rfl) (cs := #[.bool true, .slice Ax lx.length cx]) (t := 60) ?hrz92 ?_; (case hrz92 => first | (go_simp; done) | (go_simp; rfl)); intro gx hg_ wq91 hbox hb; have NE_gq_gx := nE1_ hg_ gq_B; have NE_gx_gq := nE2_ hg_ gq_B; have gx_G := gG_ hg_ HB; replace gq_B := Aside0.mk (blk_below gq_B.out hb); clear gq_0 gq_f0 gq_1 gq_f1 gq_2 gq_f2 gq_3 gq_f3 gq_4 gq_f4 gq_5 gq_f5 gq_6 gq_f6; obtain ⟨gq_0, gq_1, gq_2, gq_3, gq_4, gq_5, gq_6, gq_f0, gq_f1, gq_f2, gq_f3, gq_f4, gq_f5, gq_f6⟩ := cz7_ gq_B.out; have gx_B := Aside0.mk hbox; obtain ⟨gx_0, gx_1, gx_f0, gx_f1⟩ := cz2_ hbox; replace HB := Aside0.mk (below_step HB.out hb); clear hbox hb hg_) | ((with_reducible refine gate_dst (N := 5) rfl ?_); (try (refine gate_guard (by rfl) ?_; dsimp only)); refine box_event (by rfl) (N := 5) (by rfl) (cs := #[.bool false, .slice none 0 0]) (t := 60) ?hrz94 ?_; (case hrz94 => first | (go_simp; done) | (go_simp; rfl)); intro gr hg_ wq93 hbox hb; have NE_gq_gr := nE1_ hg_ gq_B; have NE_gr_gq := nE2_ hg_ gq_B; have NE_gx_gr := nE1_ hg_ gx_B; have NE_gr_gx := nE2_ hg_ gx_B; have gr_G := gG_ hg_ HB; replace gq_B := Aside0.mk (blk_below gq_B.out hb); clear gq_0 gq_f0 gq_1 gq_f1 gq_2 gq_f2 gq_3 gq_f3 gq_4 gq_f4 gq_5 gq_f5 gq_6 gq_f6; obtain ⟨gq_0, gq_1, gq_2, gq_3, gq_4, gq_5, gq_6, gq_f0, gq_f1, gq_f2, gq_f3, gq_f4, gq_f5, gq_f6⟩ := cz7_ gq_B.out; replace gx_B := Aside0.mk (blk_below gx_B.out hb); clear gx_0 gx_f0 gx_1 gx_f1; obtain ⟨gx_0, gx_1, gx_f0, gx_f1⟩ := cz2_ gx_B.out; have gr_B := Aside0.mk hbox; obtain ⟨gr_0, gr_1, gr_f0, gr_f1⟩ := cz2_ hbox; replace HB := Aside0.mk (below_step HB.out hb); clear hbox hb hg_) | ((with_reducible refine gate_dst (N := 6) rfl ?_); (try (refine gate_guard (by rfl) ?_; dsimp only)); refine box_event (by rfl) (N := 6) (by rfl) (cs := #[.bool false, .slice none 0 0]) (t := 60) ?hrz96 ?_; (case hrz96 => first | (go_simp; done) | (go_simp; rfl)); intro gs hg_ wq95 hbox hb; have NE_gq_gs := nE1_ hg_ gq_B; have NE_gs_gq := nE2_ hg_ gq_B; have NE_gx_gs := nE1_ hg_ gx_B; have NE_gs_gx := nE2_ hg_ gx_B; have NE_gr_gs := nE1_ hg_ gr_B; have NE_gs_gr := nE2_ hg_ gr_B; have gs_G := gG_ hg_ HB; replace gq_B := Aside0.mk (blk_below gq_B.out hb); clear gq_0 gq_f0 gq_1 gq_f1 gq_2 gq_f2 gq_3 gq_f3 gq_4 gq_f4 gq_5 gq_f5 gq_6 gq_f6; obtain ⟨gq_0, gq_1, gq_2, gq_3, gq_4, gq_5, gq_6, gq_f0, gq_f1, gq_f2, gq_f3, gq_f4, gq_f5, gq_f6⟩ := cz7_ gq_B.out; replace gx_B := Aside0.mk (blk_below gx_B.out hb); clear gx_0 gx_f0 gx_1 gx_f1; obtain ⟨gx_0, gx_1, gx_f0, gx_f1⟩ := cz2_ gx_B.out; replace gr_B := Aside0.mk (blk_below gr_B.out hb); clear gr_0 gr_f0 gr_1 gr_f1; obtain ⟨gr_0, gr_1, gr_f0, gr_f1⟩ := cz2_ gr_B.out; have gs_B := Aside0.mk hbox; obtain ⟨gs_0, gs_1, gs_f0, gs_f1⟩ := cz2_ hbox; replace HB := Aside0.mk (below_step HB.out hb); clear hbox hb hg_) | ((with_reducible refine gate_store (p := 6) rfl ?_); refine st_all (g := gs) 6 [.bool true, .slice A5 q.f3.length c5] ?ttz98 ?xxz98 ?uuz98 ?htz98 ?eez98 gs_B.out ?_; (case eez98 => and_intros <;> rfl); (case htz98 => kernel_rfl); intro wq97 hbox hO; replace gq_B := Aside0.mk (hO.blk NE_gq_gs.out gq_B.out); clear gq_0 gq_f0 gq_1 gq_f1 gq_2 gq_f2 gq_3 gq_f3 gq_4 gq_f4 gq_5 gq_f5 gq_6 gq_f6; obtain ⟨gq_0, gq_1, gq_2, gq_3, gq_4, gq_5, gq_6, gq_f0, gq_f1, gq_f2, gq_f3, gq_f4, gq_f5, gq_f6⟩ := cz7_ gq_B.out; replace gx_B := Aside0.mk (hO.blk NE_gx_gs.out gx_B.out); clear gx_0 gx_f0 gx_1 gx_f1; obtain ⟨gx_0, gx_1, gx_f0, gx_f1⟩ := cz2_ gx_B.out; replace gr_B := Aside0.mk (hO.blk NE_gr_gs.out gr_B.out); clear gr_0 gr_f0 gr_1 gr_f1; obtain ⟨gr_0, gr_1, gr_f0, gr_f1⟩ := cz2_ gr_B.out; clear gs_B; clear gs_0 gs_f0 gs_1 gs_f1; have gs_B := Aside0.mk hbox; obtain ⟨gs_0, gs_1, gs_f0, gs_f1⟩ := cz2_ hbox; replace HB := Aside0.mk (hO.below HB.out gs_G.out); clear hbox hO) | (go_at_call 47; refine (same14_calls true Ax cx lx A6 c6 q.f4 _ ?s0_z100 ?s1_z100 ?s2_z100 ?s3_z100).mono ?_; (case s0_z100 => with_reducible exact lC GX.out HB.out); (case s1_z100 => with_reducible exact lC G6.out HB.out); (case s2_z100 => exact HN.out); (case s3_z100 => exact HS.out); rintro e wq99 ⟨rfl, hb⟩; replace gq_B := Aside0.mk (blk_below gq_B.out hb); clear gq_0 gq_f0 gq_1 gq_f1 gq_2 gq_f2 gq_3 gq_f3 gq_4 gq_f4 gq_5 gq_f5 gq_6 gq_f6; obtain ⟨gq_0, gq_1, gq_2, gq_3, gq_4, gq_5, gq_6, gq_f0, gq_f1, gq_f2, gq_f3, gq_f4, gq_f5, gq_f6⟩ := cz7_ gq_B.out; replace gx_B := Aside0.mk (blk_below gx_B.out hb); clear gx_0 gx_f0 gx_1 gx_f1; obtain ⟨gx_0, gx_1, gx_f0, gx_f1⟩ := cz2_ gx_B.out; replace gr_B := Aside0.mk (blk_below gr_B.out hb); clear gr_0 gr_f0 gr_1 gr_f1; obtain ⟨gr_0, gr_1, gr_f0, gr_f1⟩ := cz2_ gr_B.out; replace gs_B := Aside0.mk (blk_below gs_B.out hb); clear gs_0 gs_f0 gs_1 gs_f1; obtain ⟨gs_0, gs_1, gs_f0, gs_f1⟩ := cz2_ gs_B.out; replace HB := Aside0.mk (below_step HB.out hb); clear hb))
  refine start_w (n := 3) (S := fun w' => w'.cell? ⟨gq, 0, none⟩ = some (.int .u8 q.f0) ∧ w'.cell? ⟨gq, 1, none⟩ = some (.int .u64 q.f1) ∧ w'.cell? ⟨gq, 2, none⟩ = some (.int .u64 q.f2) ∧ w'.cell? ⟨gq, 3, none⟩ = some (.slice A5 q.f3.length c5) ∧ w'.cell? ⟨gq, 4, none⟩ = some (.slice A6 q.f4.length c6) ∧ w'.cell? ⟨gq, 5, none⟩ = some (.bool true) ∧ w'.cell? ⟨gq, 6, none⟩ = some (.int .u8 q.f6) ∧ w'.cell? ⟨gx, 0, none⟩ = some (.bool true) ∧ w'.cell? ⟨gx, 1, none⟩ = some (.slice Ax lx.length cx) ∧ w'.cell? ⟨gs, 0, none⟩ = some (.bool true) ∧ w'.cell? ⟨gs, 1, none⟩ = some (.slice A5 q.f3.length c5)) (ds := []) #[false, false, false] (by kernel_rfl) rfl rfl ?_
  intro wq101 hb
  replace gq_B := Aside0.mk (blk_below gq_B.out hb)
  clear gq_0 gq_f0 gq_1 gq_f1 gq_2 gq_f2 gq_3 gq_f3 gq_4 gq_f4 gq_5 gq_f5 gq_6 gq_f6
  obtain ⟨gq_0, gq_1, gq_2, gq_3, gq_4, gq_5, gq_6, gq_f0, gq_f1, gq_f2, gq_f3, gq_f4, gq_f5, gq_f6⟩ := cz7_ gq_B.out
  replace gx_B := Aside0.mk (blk_below gx_B.out hb)
  clear gx_0 gx_f0 gx_1 gx_f1
  obtain ⟨gx_0, gx_1, gx_f0, gx_f1⟩ := cz2_ gx_B.out
  replace gr_B := Aside0.mk (blk_below gr_B.out hb)
  clear gr_0 gr_f0 gr_1 gr_f1
  obtain ⟨gr_0, gr_1, gr_f0, gr_f1⟩ := cz2_ gr_B.out
  replace gs_B := Aside0.mk (blk_below gs_B.out hb)
  clear gs_0 gs_f0 gs_1 gs_f1
  obtain ⟨gs_0, gs_1, gs_f0, gs_f1⟩ := cz2_ gs_B.out
  replace HB := Aside0.mk (below_step HB.out hb)
  clear hb
  refine pure_ (i := 1) (N := (some 4)) (v := ?_) (a' := ?_) #[false, true, false] rfl rfl (by kernel_rfl) (fun _ _ _ h => h) (Or.inl ⟨by rfl, ?_⟩) ?_ ?_
  rotate_left
  · intro w'; go_simp; with_reducible rfl
  rotate_left
  · simp only [Act.put, List.setIfInBounds_toArray, List.set_cons_zero, List.set_cons_succ, i64_w, i32_w]; rfl
  refine take_ (i := 0) (N := (some 40)) (v := ?_) (a' := ?_) #[true, true, false] rfl rfl (by kernel_rfl) (fun _ _ _ h => h) (Or.inl ⟨by rfl, ?_⟩) ⟨gq_0, gq_1, gq_2, gq_3, gq_4, gq_5, gq_6, gx_0, gx_1, gs_0, gs_1⟩ ?_ ?_
  rotate_left
  · rintro w' ⟨s_0, s_1, s_2, s_3, s_4, s_5, s_6, s_7, s_8, s_9, s_10⟩; go_simp; with_reducible rfl
  rotate_left
  · simp only [Act.put, List.setIfInBounds_toArray, List.set_cons_zero, List.set_cons_succ, i64_w, i32_w]; rfl
  refine one_ (i := 2) (N := none) #[true, true, true] rfl rfl (by kernel_rfl) (by decide) (fun K hK => ?_)
  refine st_allS (g := gr) 5 [.bool true, .slice A5 q.f3.length c5] ?ttz103 ?xxz103 ?uuz103 ?htz103 (by rfl) ?eez103 gr_B.out ?_
  (case eez103 => and_intros <;> rfl)
  (case htz103 => kernel_rfl)
  intro wq102 hbox hO
  replace gq_B := Aside0.mk (hO.blk NE_gq_gr.out gq_B.out)
  clear gq_0 gq_f0 gq_1 gq_f1 gq_2 gq_f2 gq_3 gq_f3 gq_4 gq_f4 gq_5 gq_f5 gq_6 gq_f6
  obtain ⟨gq_0, gq_1, gq_2, gq_3, gq_4, gq_5, gq_6, gq_f0, gq_f1, gq_f2, gq_f3, gq_f4, gq_f5, gq_f6⟩ := cz7_ gq_B.out
  replace gx_B := Aside0.mk (hO.blk NE_gx_gr.out gx_B.out)
  clear gx_0 gx_f0 gx_1 gx_f1
  obtain ⟨gx_0, gx_1, gx_f0, gx_f1⟩ := cz2_ gx_B.out
  replace gs_B := Aside0.mk (hO.blk NE_gs_gr.out gs_B.out)
  clear gs_0 gs_f0 gs_1 gs_f1
  obtain ⟨gs_0, gs_1, gs_f0, gs_f1⟩ := cz2_ gs_B.out
  clear gr_B
  clear gr_0 gr_f0 gr_1 gr_f1
  have gr_B := Aside0.mk hbox
  obtain ⟨gr_0, gr_1, gr_f0, gr_f1⟩ := cz2_ hbox
  replace HB := Aside0.mk (hO.below HB.out gr_G.out)
  clear hbox hO
  refine hK.out _ _ ⟨gq_0, gq_1, gq_2, gq_3, gq_4, gq_5, gq_6, gx_0, gx_1, gs_0, gs_1⟩ (fun _ => ?_)
  clear hK K
  refine norm_ (a' := ?_) ?_ ?_
  rotate_left
  · rfl
  refine done_ (by kernel_rfl) ?_
  go_wp2
  refine bodyPost_ret (results_tc rfl _ _ gr 60 #[.bool true, .slice A5 q.f3.length c5] (0, 0) _ rfl gr_B.out Try.underlying60 rfl (by kernel_rfl)) rfl ?_
  exact ⟨rfl, HB.out⟩
set_option maxHeartbeats 8000000 in
set_option maxRecDepth 100000 in
theorem answer_casdiff (q : S27) (A5 : Option Addr) (c5 : Nat) (A6 : Option Addr) (c6 : Nat) (Ax : Option Addr) (cx : Nat) (lx : List Int) (w : World) (g5 : q.f3.length ≤ c5 ∧ Kd.C (Kd.int .u8) w A5 q.f3.length q.f3) (g6 : q.f4.length ≤ c6 ∧ Kd.C (Kd.int .u8) w A6 q.f4.length q.f4) (gx : lx.length ≤ cx ∧ Kd.C (Kd.int .u8) w Ax lx.length lx) (hn : lx.length < 4611686018427387904) (f0 : (q.f0 == 2) = false) (f1 : (q.f0 == 3) = false) (f2 : (q.f0 == 4) = true) (hs : decide (lx = q.f4) = false) :
    Calls Try.prog 46 #[.agg #[.int .u8 q.f0, .int .u64 q.f1, .int .u64 q.f2, .slice A5 q.f3.length c5, .slice A6 q.f4.length c6, .bool true, .int .u8 q.f6], .agg #[.bool true, .slice Ax lx.length cx]] w fun e w' => e = .returned (.tuple #[.int .i64 3, .agg #[.bool true, .slice Ax lx.length cx]]) ∧ Below w.heap.size w w' := by
  have HB := Aside0.mk (Below.refl w.heap.size w)
  have G5 := Aside0.mk g5
  clear g5
  have G6 := Aside0.mk g6
  clear g6
  have GX := Aside0.mk gx
  clear gx
  have HN := Aside0.mk hn
  clear hn
  have HS := Aside0.mk hs
  clear hs
  go_enter Try.func46, Try.ntmps46
  have hu := Try.underlying60
  have hu2 := Try.underlying27
  go_wp2_with (first | ((with_reducible refine gate_dst (N := 2) rfl ?_); (try (refine gate_guard (by rfl) ?_; dsimp only)); refine box_event (by rfl) (N := 2) (by rfl) (cs := #[.int .u8 q.f0, .int .u64 q.f1, .int .u64 q.f2, .slice A5 q.f3.length c5, .slice A6 q.f4.length c6, .bool true, .int .u8 q.f6]) (t := 27) ?hrz105 ?_; (case hrz105 => first | (go_simp; done) | (go_simp; rfl)); intro gq hg_ wq104 hbox hb; have gq_G := gG_ hg_ HB; have gq_B := Aside0.mk hbox; obtain ⟨gq_0, gq_1, gq_2, gq_3, gq_4, gq_5, gq_6, gq_f0, gq_f1, gq_f2, gq_f3, gq_f4, gq_f5, gq_f6⟩ := cz7_ hbox; replace HB := Aside0.mk (below_step HB.out hb); clear hbox hb hg_) | ((with_reducible refine gate_dst (N := 3) rfl ?_); (try (refine gate_guard (by rfl) ?_; dsimp only)); refine box_event (by rfl) (N := 3) (by rfl) (cs := #[.bool true, .slice Ax lx.length cx]) (t := 60) ?hrz107 ?_; (case hrz107 => first | (go_simp; done) | (go_simp; rfl)); intro gx hg_ wq106 hbox hb; have NE_gq_gx := nE1_ hg_ gq_B; have NE_gx_gq := nE2_ hg_ gq_B; have gx_G := gG_ hg_ HB; replace gq_B := Aside0.mk (blk_below gq_B.out hb); clear gq_0 gq_f0 gq_1 gq_f1 gq_2 gq_f2 gq_3 gq_f3 gq_4 gq_f4 gq_5 gq_f5 gq_6 gq_f6; obtain ⟨gq_0, gq_1, gq_2, gq_3, gq_4, gq_5, gq_6, gq_f0, gq_f1, gq_f2, gq_f3, gq_f4, gq_f5, gq_f6⟩ := cz7_ gq_B.out; have gx_B := Aside0.mk hbox; obtain ⟨gx_0, gx_1, gx_f0, gx_f1⟩ := cz2_ hbox; replace HB := Aside0.mk (below_step HB.out hb); clear hbox hb hg_) | ((with_reducible refine gate_dst (N := 5) rfl ?_); (try (refine gate_guard (by rfl) ?_; dsimp only)); refine box_event (by rfl) (N := 5) (by rfl) (cs := #[.bool false, .slice none 0 0]) (t := 60) ?hrz109 ?_; (case hrz109 => first | (go_simp; done) | (go_simp; rfl)); intro gr hg_ wq108 hbox hb; have NE_gq_gr := nE1_ hg_ gq_B; have NE_gr_gq := nE2_ hg_ gq_B; have NE_gx_gr := nE1_ hg_ gx_B; have NE_gr_gx := nE2_ hg_ gx_B; have gr_G := gG_ hg_ HB; replace gq_B := Aside0.mk (blk_below gq_B.out hb); clear gq_0 gq_f0 gq_1 gq_f1 gq_2 gq_f2 gq_3 gq_f3 gq_4 gq_f4 gq_5 gq_f5 gq_6 gq_f6; obtain ⟨gq_0, gq_1, gq_2, gq_3, gq_4, gq_5, gq_6, gq_f0, gq_f1, gq_f2, gq_f3, gq_f4, gq_f5, gq_f6⟩ := cz7_ gq_B.out; replace gx_B := Aside0.mk (blk_below gx_B.out hb); clear gx_0 gx_f0 gx_1 gx_f1; obtain ⟨gx_0, gx_1, gx_f0, gx_f1⟩ := cz2_ gx_B.out; have gr_B := Aside0.mk hbox; obtain ⟨gr_0, gr_1, gr_f0, gr_f1⟩ := cz2_ hbox; replace HB := Aside0.mk (below_step HB.out hb); clear hbox hb hg_) | ((with_reducible refine gate_dst (N := 6) rfl ?_); (try (refine gate_guard (by rfl) ?_; dsimp only)); refine box_event (by rfl) (N := 6) (by rfl) (cs := #[.bool false, .slice none 0 0]) (t := 60) ?hrz111 ?_; (case hrz111 => first | (go_simp; done) | (go_simp; rfl)); intro gs hg_ wq110 hbox hb; have NE_gq_gs := nE1_ hg_ gq_B; have NE_gs_gq := nE2_ hg_ gq_B; have NE_gx_gs := nE1_ hg_ gx_B; have NE_gs_gx := nE2_ hg_ gx_B; have NE_gr_gs := nE1_ hg_ gr_B; have NE_gs_gr := nE2_ hg_ gr_B; have gs_G := gG_ hg_ HB; replace gq_B := Aside0.mk (blk_below gq_B.out hb); clear gq_0 gq_f0 gq_1 gq_f1 gq_2 gq_f2 gq_3 gq_f3 gq_4 gq_f4 gq_5 gq_f5 gq_6 gq_f6; obtain ⟨gq_0, gq_1, gq_2, gq_3, gq_4, gq_5, gq_6, gq_f0, gq_f1, gq_f2, gq_f3, gq_f4, gq_f5, gq_f6⟩ := cz7_ gq_B.out; replace gx_B := Aside0.mk (blk_below gx_B.out hb); clear gx_0 gx_f0 gx_1 gx_f1; obtain ⟨gx_0, gx_1, gx_f0, gx_f1⟩ := cz2_ gx_B.out; replace gr_B := Aside0.mk (blk_below gr_B.out hb); clear gr_0 gr_f0 gr_1 gr_f1; obtain ⟨gr_0, gr_1, gr_f0, gr_f1⟩ := cz2_ gr_B.out; have gs_B := Aside0.mk hbox; obtain ⟨gs_0, gs_1, gs_f0, gs_f1⟩ := cz2_ hbox; replace HB := Aside0.mk (below_step HB.out hb); clear hbox hb hg_) | ((with_reducible refine gate_store (p := 6) rfl ?_); refine st_all (g := gs) 6 [.bool true, .slice A5 q.f3.length c5] ?ttz113 ?xxz113 ?uuz113 ?htz113 ?eez113 gs_B.out ?_; (case eez113 => and_intros <;> rfl); (case htz113 => kernel_rfl); intro wq112 hbox hO; replace gq_B := Aside0.mk (hO.blk NE_gq_gs.out gq_B.out); clear gq_0 gq_f0 gq_1 gq_f1 gq_2 gq_f2 gq_3 gq_f3 gq_4 gq_f4 gq_5 gq_f5 gq_6 gq_f6; obtain ⟨gq_0, gq_1, gq_2, gq_3, gq_4, gq_5, gq_6, gq_f0, gq_f1, gq_f2, gq_f3, gq_f4, gq_f5, gq_f6⟩ := cz7_ gq_B.out; replace gx_B := Aside0.mk (hO.blk NE_gx_gs.out gx_B.out); clear gx_0 gx_f0 gx_1 gx_f1; obtain ⟨gx_0, gx_1, gx_f0, gx_f1⟩ := cz2_ gx_B.out; replace gr_B := Aside0.mk (hO.blk NE_gr_gs.out gr_B.out); clear gr_0 gr_f0 gr_1 gr_f1; obtain ⟨gr_0, gr_1, gr_f0, gr_f1⟩ := cz2_ gr_B.out; clear gs_B; clear gs_0 gs_f0 gs_1 gs_f1; have gs_B := Aside0.mk hbox; obtain ⟨gs_0, gs_1, gs_f0, gs_f1⟩ := cz2_ hbox; replace HB := Aside0.mk (hO.below HB.out gs_G.out); clear hbox hO) | (go_at_call 47; refine (same14_calls false Ax cx lx A6 c6 q.f4 _ ?s0_z115 ?s1_z115 ?s2_z115 ?s3_z115).mono ?_; (case s0_z115 => with_reducible exact lC GX.out HB.out); (case s1_z115 => with_reducible exact lC G6.out HB.out); (case s2_z115 => exact HN.out); (case s3_z115 => exact HS.out); rintro e wq114 ⟨rfl, hb⟩; replace gq_B := Aside0.mk (blk_below gq_B.out hb); clear gq_0 gq_f0 gq_1 gq_f1 gq_2 gq_f2 gq_3 gq_f3 gq_4 gq_f4 gq_5 gq_f5 gq_6 gq_f6; obtain ⟨gq_0, gq_1, gq_2, gq_3, gq_4, gq_5, gq_6, gq_f0, gq_f1, gq_f2, gq_f3, gq_f4, gq_f5, gq_f6⟩ := cz7_ gq_B.out; replace gx_B := Aside0.mk (blk_below gx_B.out hb); clear gx_0 gx_f0 gx_1 gx_f1; obtain ⟨gx_0, gx_1, gx_f0, gx_f1⟩ := cz2_ gx_B.out; replace gr_B := Aside0.mk (blk_below gr_B.out hb); clear gr_0 gr_f0 gr_1 gr_f1; obtain ⟨gr_0, gr_1, gr_f0, gr_f1⟩ := cz2_ gr_B.out; replace gs_B := Aside0.mk (blk_below gs_B.out hb); clear gs_0 gs_f0 gs_1 gs_f1; obtain ⟨gs_0, gs_1, gs_f0, gs_f1⟩ := cz2_ gs_B.out; replace HB := Aside0.mk (below_step HB.out hb); clear hb))
  refine start_w (n := 3) (S := fun w' => w'.cell? ⟨gq, 0, none⟩ = some (.int .u8 q.f0) ∧ w'.cell? ⟨gq, 1, none⟩ = some (.int .u64 q.f1) ∧ w'.cell? ⟨gq, 2, none⟩ = some (.int .u64 q.f2) ∧ w'.cell? ⟨gq, 3, none⟩ = some (.slice A5 q.f3.length c5) ∧ w'.cell? ⟨gq, 4, none⟩ = some (.slice A6 q.f4.length c6) ∧ w'.cell? ⟨gq, 5, none⟩ = some (.bool true) ∧ w'.cell? ⟨gq, 6, none⟩ = some (.int .u8 q.f6) ∧ w'.cell? ⟨gx, 0, none⟩ = some (.bool true) ∧ w'.cell? ⟨gx, 1, none⟩ = some (.slice Ax lx.length cx) ∧ w'.cell? ⟨gs, 0, none⟩ = some (.bool true) ∧ w'.cell? ⟨gs, 1, none⟩ = some (.slice A5 q.f3.length c5)) (ds := []) #[false, false, false] (by kernel_rfl) rfl rfl ?_
  intro wq116 hb
  replace gq_B := Aside0.mk (blk_below gq_B.out hb)
  clear gq_0 gq_f0 gq_1 gq_f1 gq_2 gq_f2 gq_3 gq_f3 gq_4 gq_f4 gq_5 gq_f5 gq_6 gq_f6
  obtain ⟨gq_0, gq_1, gq_2, gq_3, gq_4, gq_5, gq_6, gq_f0, gq_f1, gq_f2, gq_f3, gq_f4, gq_f5, gq_f6⟩ := cz7_ gq_B.out
  replace gx_B := Aside0.mk (blk_below gx_B.out hb)
  clear gx_0 gx_f0 gx_1 gx_f1
  obtain ⟨gx_0, gx_1, gx_f0, gx_f1⟩ := cz2_ gx_B.out
  replace gr_B := Aside0.mk (blk_below gr_B.out hb)
  clear gr_0 gr_f0 gr_1 gr_f1
  obtain ⟨gr_0, gr_1, gr_f0, gr_f1⟩ := cz2_ gr_B.out
  replace gs_B := Aside0.mk (blk_below gs_B.out hb)
  clear gs_0 gs_f0 gs_1 gs_f1
  obtain ⟨gs_0, gs_1, gs_f0, gs_f1⟩ := cz2_ gs_B.out
  replace HB := Aside0.mk (below_step HB.out hb)
  clear hb
  refine pure_ (i := 1) (N := (some 4)) (v := ?_) (a' := ?_) #[false, true, false] rfl rfl (by kernel_rfl) (fun _ _ _ h => h) (Or.inl ⟨by rfl, ?_⟩) ?_ ?_
  rotate_left
  · intro w'; go_simp; with_reducible rfl
  rotate_left
  · simp only [Act.put, List.setIfInBounds_toArray, List.set_cons_zero, List.set_cons_succ, i64_w, i32_w]; rfl
  refine take_ (i := 0) (N := (some 41)) (v := ?_) (a' := ?_) #[true, true, false] rfl rfl (by kernel_rfl) (fun _ _ _ h => h) (Or.inl ⟨by rfl, ?_⟩) ⟨gq_0, gq_1, gq_2, gq_3, gq_4, gq_5, gq_6, gx_0, gx_1, gs_0, gs_1⟩ ?_ ?_
  rotate_left
  · rintro w' ⟨s_0, s_1, s_2, s_3, s_4, s_5, s_6, s_7, s_8, s_9, s_10⟩; go_simp; with_reducible rfl
  rotate_left
  · simp only [Act.put, List.setIfInBounds_toArray, List.set_cons_zero, List.set_cons_succ, i64_w, i32_w]; rfl
  refine one_ (i := 2) (N := none) #[true, true, true] rfl rfl (by kernel_rfl) (by decide) (fun K hK => ?_)
  refine st_allS (g := gr) 5 [.bool true, .slice Ax lx.length cx] ?ttz118 ?xxz118 ?uuz118 ?htz118 (by rfl) ?eez118 gr_B.out ?_
  (case eez118 => and_intros <;> rfl)
  (case htz118 => kernel_rfl)
  intro wq117 hbox hO
  replace gq_B := Aside0.mk (hO.blk NE_gq_gr.out gq_B.out)
  clear gq_0 gq_f0 gq_1 gq_f1 gq_2 gq_f2 gq_3 gq_f3 gq_4 gq_f4 gq_5 gq_f5 gq_6 gq_f6
  obtain ⟨gq_0, gq_1, gq_2, gq_3, gq_4, gq_5, gq_6, gq_f0, gq_f1, gq_f2, gq_f3, gq_f4, gq_f5, gq_f6⟩ := cz7_ gq_B.out
  replace gx_B := Aside0.mk (hO.blk NE_gx_gr.out gx_B.out)
  clear gx_0 gx_f0 gx_1 gx_f1
  obtain ⟨gx_0, gx_1, gx_f0, gx_f1⟩ := cz2_ gx_B.out
  replace gs_B := Aside0.mk (hO.blk NE_gs_gr.out gs_B.out)
  clear gs_0 gs_f0 gs_1 gs_f1
  obtain ⟨gs_0, gs_1, gs_f0, gs_f1⟩ := cz2_ gs_B.out
  clear gr_B
  clear gr_0 gr_f0 gr_1 gr_f1
  have gr_B := Aside0.mk hbox
  obtain ⟨gr_0, gr_1, gr_f0, gr_f1⟩ := cz2_ hbox
  replace HB := Aside0.mk (hO.below HB.out gr_G.out)
  clear hbox hO
  refine hK.out _ _ ⟨gq_0, gq_1, gq_2, gq_3, gq_4, gq_5, gq_6, gx_0, gx_1, gs_0, gs_1⟩ (fun _ => ?_)
  clear hK K
  refine norm_ (a' := ?_) ?_ ?_
  rotate_left
  · rfl
  refine done_ (by kernel_rfl) ?_
  go_wp2
  refine bodyPost_ret (results_tc rfl _ _ gr 60 #[.bool true, .slice Ax lx.length cx] (0, 0) _ rfl gr_B.out Try.underlying60 rfl (by kernel_rfl)) rfl ?_
  exact ⟨rfl, HB.out⟩
set_option maxHeartbeats 8000000 in
set_option maxRecDepth 100000 in
theorem answer_gett (q : S27) (A5 : Option Addr) (c5 : Nat) (A6 : Option Addr) (c6 : Nat) (Ax : Option Addr) (cx : Nat) (lx : List Int) (w : World) (g5 : q.f3.length ≤ c5 ∧ Kd.C (Kd.int .u8) w A5 q.f3.length q.f3) (g6 : q.f4.length ≤ c6 ∧ Kd.C (Kd.int .u8) w A6 q.f4.length q.f4) (gx : lx.length ≤ cx ∧ Kd.C (Kd.int .u8) w Ax lx.length lx) (hn : lx.length < 4611686018427387904) (f0 : (q.f0 == 2) = false) (f1 : (q.f0 == 3) = false) (f2 : (q.f0 == 4) = false) :
    Calls Try.prog 46 #[.agg #[.int .u8 q.f0, .int .u64 q.f1, .int .u64 q.f2, .slice A5 q.f3.length c5, .slice A6 q.f4.length c6, .bool q.f5, .int .u8 q.f6], .agg #[.bool true, .slice Ax lx.length cx]] w fun e w' => e = .returned (.tuple #[.int .i64 1, .agg #[.bool true, .slice Ax lx.length cx]]) ∧ Below w.heap.size w w' := by
  have HB := Aside0.mk (Below.refl w.heap.size w)
  have G5 := Aside0.mk g5
  clear g5
  have G6 := Aside0.mk g6
  clear g6
  have GX := Aside0.mk gx
  clear gx
  have HN := Aside0.mk hn
  clear hn
  go_enter Try.func46, Try.ntmps46
  have hu := Try.underlying60
  have hu2 := Try.underlying27
  go_wp2_with (first | ((with_reducible refine gate_dst (N := 2) rfl ?_); (try (refine gate_guard (by rfl) ?_; dsimp only)); refine box_event (by rfl) (N := 2) (by rfl) (cs := #[.int .u8 q.f0, .int .u64 q.f1, .int .u64 q.f2, .slice A5 q.f3.length c5, .slice A6 q.f4.length c6, .bool q.f5, .int .u8 q.f6]) (t := 27) ?hrz120 ?_; (case hrz120 => first | (go_simp; done) | (go_simp; rfl)); intro gq hg_ wq119 hbox hb; have gq_G := gG_ hg_ HB; have gq_B := Aside0.mk hbox; obtain ⟨gq_0, gq_1, gq_2, gq_3, gq_4, gq_5, gq_6, gq_f0, gq_f1, gq_f2, gq_f3, gq_f4, gq_f5, gq_f6⟩ := cz7_ hbox; replace HB := Aside0.mk (below_step HB.out hb); clear hbox hb hg_) | ((with_reducible refine gate_dst (N := 3) rfl ?_); (try (refine gate_guard (by rfl) ?_; dsimp only)); refine box_event (by rfl) (N := 3) (by rfl) (cs := #[.bool true, .slice Ax lx.length cx]) (t := 60) ?hrz122 ?_; (case hrz122 => first | (go_simp; done) | (go_simp; rfl)); intro gx hg_ wq121 hbox hb; have NE_gq_gx := nE1_ hg_ gq_B; have NE_gx_gq := nE2_ hg_ gq_B; have gx_G := gG_ hg_ HB; replace gq_B := Aside0.mk (blk_below gq_B.out hb); clear gq_0 gq_f0 gq_1 gq_f1 gq_2 gq_f2 gq_3 gq_f3 gq_4 gq_f4 gq_5 gq_f5 gq_6 gq_f6; obtain ⟨gq_0, gq_1, gq_2, gq_3, gq_4, gq_5, gq_6, gq_f0, gq_f1, gq_f2, gq_f3, gq_f4, gq_f5, gq_f6⟩ := cz7_ gq_B.out; have gx_B := Aside0.mk hbox; obtain ⟨gx_0, gx_1, gx_f0, gx_f1⟩ := cz2_ hbox; replace HB := Aside0.mk (below_step HB.out hb); clear hbox hb hg_) | ((with_reducible refine gate_dst (N := 5) rfl ?_); (try (refine gate_guard (by rfl) ?_; dsimp only)); refine box_event (by rfl) (N := 5) (by rfl) (cs := #[.bool false, .slice none 0 0]) (t := 60) ?hrz124 ?_; (case hrz124 => first | (go_simp; done) | (go_simp; rfl)); intro gr hg_ wq123 hbox hb; have NE_gq_gr := nE1_ hg_ gq_B; have NE_gr_gq := nE2_ hg_ gq_B; have NE_gx_gr := nE1_ hg_ gx_B; have NE_gr_gx := nE2_ hg_ gx_B; have gr_G := gG_ hg_ HB; replace gq_B := Aside0.mk (blk_below gq_B.out hb); clear gq_0 gq_f0 gq_1 gq_f1 gq_2 gq_f2 gq_3 gq_f3 gq_4 gq_f4 gq_5 gq_f5 gq_6 gq_f6; obtain ⟨gq_0, gq_1, gq_2, gq_3, gq_4, gq_5, gq_6, gq_f0, gq_f1, gq_f2, gq_f3, gq_f4, gq_f5, gq_f6⟩ := cz7_ gq_B.out; replace gx_B := Aside0.mk (blk_below gx_B.out hb); clear gx_0 gx_f0 gx_1 gx_f1; obtain ⟨gx_0, gx_1, gx_f0, gx_f1⟩ := cz2_ gx_B.out; have gr_B := Aside0.mk hbox; obtain ⟨gr_0, gr_1, gr_f0, gr_f1⟩ := cz2_ hbox; replace HB := Aside0.mk (below_step HB.out hb); clear hbox hb hg_) | ((with_reducible refine gate_dst (N := 6) rfl ?_); (try (refine gate_guard (by rfl) ?_; dsimp only)); refine box_event (by rfl) (N := 6) (by rfl) (cs := #[.bool false, .slice none 0 0]) (t := 60) ?hrz126 ?_; (case hrz126 => first | (go_simp; done) | (go_simp; rfl)); intro gs hg_ wq125 hbox hb; have NE_gq_gs := nE1_ hg_ gq_B; have NE_gs_gq := nE2_ hg_ gq_B; have NE_gx_gs := nE1_ hg_ gx_B; have NE_gs_gx := nE2_ hg_ gx_B; have NE_gr_gs := nE1_ hg_ gr_B; have NE_gs_gr := nE2_ hg_ gr_B; have gs_G := gG_ hg_ HB; replace gq_B := Aside0.mk (blk_below gq_B.out hb); clear gq_0 gq_f0 gq_1 gq_f1 gq_2 gq_f2 gq_3 gq_f3 gq_4 gq_f4 gq_5 gq_f5 gq_6 gq_f6; obtain ⟨gq_0, gq_1, gq_2, gq_3, gq_4, gq_5, gq_6, gq_f0, gq_f1, gq_f2, gq_f3, gq_f4, gq_f5, gq_f6⟩ := cz7_ gq_B.out; replace gx_B := Aside0.mk (blk_below gx_B.out hb); clear gx_0 gx_f0 gx_1 gx_f1; obtain ⟨gx_0, gx_1, gx_f0, gx_f1⟩ := cz2_ gx_B.out; replace gr_B := Aside0.mk (blk_below gr_B.out hb); clear gr_0 gr_f0 gr_1 gr_f1; obtain ⟨gr_0, gr_1, gr_f0, gr_f1⟩ := cz2_ gr_B.out; have gs_B := Aside0.mk hbox; obtain ⟨gs_0, gs_1, gs_f0, gs_f1⟩ := cz2_ hbox; replace HB := Aside0.mk (below_step HB.out hb); clear hbox hb hg_) | ((with_reducible refine gate_store (p := 6) rfl ?_); refine st_all (g := gs) 6 [.bool true, .slice A5 q.f3.length c5] ?ttz128 ?xxz128 ?uuz128 ?htz128 ?eez128 gs_B.out ?_; (case eez128 => and_intros <;> rfl); (case htz128 => kernel_rfl); intro wq127 hbox hO; replace gq_B := Aside0.mk (hO.blk NE_gq_gs.out gq_B.out); clear gq_0 gq_f0 gq_1 gq_f1 gq_2 gq_f2 gq_3 gq_f3 gq_4 gq_f4 gq_5 gq_f5 gq_6 gq_f6; obtain ⟨gq_0, gq_1, gq_2, gq_3, gq_4, gq_5, gq_6, gq_f0, gq_f1, gq_f2, gq_f3, gq_f4, gq_f5, gq_f6⟩ := cz7_ gq_B.out; replace gx_B := Aside0.mk (hO.blk NE_gx_gs.out gx_B.out); clear gx_0 gx_f0 gx_1 gx_f1; obtain ⟨gx_0, gx_1, gx_f0, gx_f1⟩ := cz2_ gx_B.out; replace gr_B := Aside0.mk (hO.blk NE_gr_gs.out gr_B.out); clear gr_0 gr_f0 gr_1 gr_f1; obtain ⟨gr_0, gr_1, gr_f0, gr_f1⟩ := cz2_ gr_B.out; clear gs_B; clear gs_0 gs_f0 gs_1 gs_f1; have gs_B := Aside0.mk hbox; obtain ⟨gs_0, gs_1, gs_f0, gs_f1⟩ := cz2_ hbox; replace HB := Aside0.mk (hO.below HB.out gs_G.out); clear hbox hO) | (go_at_call 47; refine (same14_calls true Ax cx lx A6 c6 q.f4 _ ?s0_z130 ?s1_z130 ?s2_z130 ?s3_z130).mono ?_; (case s0_z130 => with_reducible exact lC GX.out HB.out); (case s1_z130 => with_reducible exact lC G6.out HB.out); (case s2_z130 => exact HN.out); (case s3_z130 => exact HS.out); rintro e wq129 ⟨rfl, hb⟩; replace gq_B := Aside0.mk (blk_below gq_B.out hb); clear gq_0 gq_f0 gq_1 gq_f1 gq_2 gq_f2 gq_3 gq_f3 gq_4 gq_f4 gq_5 gq_f5 gq_6 gq_f6; obtain ⟨gq_0, gq_1, gq_2, gq_3, gq_4, gq_5, gq_6, gq_f0, gq_f1, gq_f2, gq_f3, gq_f4, gq_f5, gq_f6⟩ := cz7_ gq_B.out; replace gx_B := Aside0.mk (blk_below gx_B.out hb); clear gx_0 gx_f0 gx_1 gx_f1; obtain ⟨gx_0, gx_1, gx_f0, gx_f1⟩ := cz2_ gx_B.out; replace gr_B := Aside0.mk (blk_below gr_B.out hb); clear gr_0 gr_f0 gr_1 gr_f1; obtain ⟨gr_0, gr_1, gr_f0, gr_f1⟩ := cz2_ gr_B.out; replace gs_B := Aside0.mk (blk_below gs_B.out hb); clear gs_0 gs_f0 gs_1 gs_f1; obtain ⟨gs_0, gs_1, gs_f0, gs_f1⟩ := cz2_ gs_B.out; replace HB := Aside0.mk (below_step HB.out hb); clear hb))
  refine start_w (n := 3) (S := fun w' => w'.cell? ⟨gq, 0, none⟩ = some (.int .u8 q.f0) ∧ w'.cell? ⟨gq, 1, none⟩ = some (.int .u64 q.f1) ∧ w'.cell? ⟨gq, 2, none⟩ = some (.int .u64 q.f2) ∧ w'.cell? ⟨gq, 3, none⟩ = some (.slice A5 q.f3.length c5) ∧ w'.cell? ⟨gq, 4, none⟩ = some (.slice A6 q.f4.length c6) ∧ w'.cell? ⟨gq, 5, none⟩ = some (.bool q.f5) ∧ w'.cell? ⟨gq, 6, none⟩ = some (.int .u8 q.f6) ∧ w'.cell? ⟨gx, 0, none⟩ = some (.bool true) ∧ w'.cell? ⟨gx, 1, none⟩ = some (.slice Ax lx.length cx) ∧ w'.cell? ⟨gs, 0, none⟩ = some (.bool true) ∧ w'.cell? ⟨gs, 1, none⟩ = some (.slice A5 q.f3.length c5)) (ds := []) #[false, false, false] (by kernel_rfl) rfl rfl ?_
  intro wq131 hb
  replace gq_B := Aside0.mk (blk_below gq_B.out hb)
  clear gq_0 gq_f0 gq_1 gq_f1 gq_2 gq_f2 gq_3 gq_f3 gq_4 gq_f4 gq_5 gq_f5 gq_6 gq_f6
  obtain ⟨gq_0, gq_1, gq_2, gq_3, gq_4, gq_5, gq_6, gq_f0, gq_f1, gq_f2, gq_f3, gq_f4, gq_f5, gq_f6⟩ := cz7_ gq_B.out
  replace gx_B := Aside0.mk (blk_below gx_B.out hb)
  clear gx_0 gx_f0 gx_1 gx_f1
  obtain ⟨gx_0, gx_1, gx_f0, gx_f1⟩ := cz2_ gx_B.out
  replace gr_B := Aside0.mk (blk_below gr_B.out hb)
  clear gr_0 gr_f0 gr_1 gr_f1
  obtain ⟨gr_0, gr_1, gr_f0, gr_f1⟩ := cz2_ gr_B.out
  replace gs_B := Aside0.mk (blk_below gs_B.out hb)
  clear gs_0 gs_f0 gs_1 gs_f1
  obtain ⟨gs_0, gs_1, gs_f0, gs_f1⟩ := cz2_ gs_B.out
  replace HB := Aside0.mk (below_step HB.out hb)
  clear hb
  refine pure_ (i := 1) (N := (some 4)) (v := ?_) (a' := ?_) #[false, true, false] rfl rfl (by kernel_rfl) (fun _ _ _ h => h) (Or.inl ⟨by rfl, ?_⟩) ?_ ?_
  rotate_left
  · intro w'; go_simp; with_reducible rfl
  rotate_left
  · simp only [Act.put, List.setIfInBounds_toArray, List.set_cons_zero, List.set_cons_succ, i64_w, i32_w]; rfl
  refine take_ (i := 0) (N := (some 44)) (v := ?_) (a' := ?_) #[true, true, false] rfl rfl (by kernel_rfl) (fun _ _ _ h => h) (Or.inl ⟨by rfl, ?_⟩) ⟨gq_0, gq_1, gq_2, gq_3, gq_4, gq_5, gq_6, gx_0, gx_1, gs_0, gs_1⟩ ?_ ?_
  rotate_left
  · rintro w' ⟨s_0, s_1, s_2, s_3, s_4, s_5, s_6, s_7, s_8, s_9, s_10⟩; go_simp; with_reducible rfl
  rotate_left
  · simp only [Act.put, List.setIfInBounds_toArray, List.set_cons_zero, List.set_cons_succ, i64_w, i32_w]; rfl
  refine one_ (i := 2) (N := none) #[true, true, true] rfl rfl (by kernel_rfl) (by decide) (fun K hK => ?_)
  refine st_allS (g := gr) 5 [.bool true, .slice Ax lx.length cx] ?ttz133 ?xxz133 ?uuz133 ?htz133 (by rfl) ?eez133 gr_B.out ?_
  (case eez133 => and_intros <;> rfl)
  (case htz133 => kernel_rfl)
  intro wq132 hbox hO
  replace gq_B := Aside0.mk (hO.blk NE_gq_gr.out gq_B.out)
  clear gq_0 gq_f0 gq_1 gq_f1 gq_2 gq_f2 gq_3 gq_f3 gq_4 gq_f4 gq_5 gq_f5 gq_6 gq_f6
  obtain ⟨gq_0, gq_1, gq_2, gq_3, gq_4, gq_5, gq_6, gq_f0, gq_f1, gq_f2, gq_f3, gq_f4, gq_f5, gq_f6⟩ := cz7_ gq_B.out
  replace gx_B := Aside0.mk (hO.blk NE_gx_gr.out gx_B.out)
  clear gx_0 gx_f0 gx_1 gx_f1
  obtain ⟨gx_0, gx_1, gx_f0, gx_f1⟩ := cz2_ gx_B.out
  replace gs_B := Aside0.mk (hO.blk NE_gs_gr.out gs_B.out)
  clear gs_0 gs_f0 gs_1 gs_f1
  obtain ⟨gs_0, gs_1, gs_f0, gs_f1⟩ := cz2_ gs_B.out
  clear gr_B
  clear gr_0 gr_f0 gr_1 gr_f1
  have gr_B := Aside0.mk hbox
  obtain ⟨gr_0, gr_1, gr_f0, gr_f1⟩ := cz2_ hbox
  replace HB := Aside0.mk (hO.below HB.out gr_G.out)
  clear hbox hO
  refine hK.out _ _ ⟨gq_0, gq_1, gq_2, gq_3, gq_4, gq_5, gq_6, gx_0, gx_1, gs_0, gs_1⟩ (fun _ => ?_)
  clear hK K
  refine norm_ (a' := ?_) ?_ ?_
  rotate_left
  · rfl
  refine done_ (by kernel_rfl) ?_
  go_wp2
  refine bodyPost_ret (results_tc rfl _ _ gr 60 #[.bool true, .slice Ax lx.length cx] (0, 0) _ rfl gr_B.out Try.underlying60 rfl (by kernel_rfl)) rfl ?_
  exact ⟨rfl, HB.out⟩
set_option maxHeartbeats 8000000 in
set_option maxRecDepth 100000 in
theorem answer_getf (q : S27) (A5 : Option Addr) (c5 : Nat) (A6 : Option Addr) (c6 : Nat) (Ax : Option Addr) (cx : Nat) (lx : List Int) (w : World) (g5 : q.f3.length ≤ c5 ∧ Kd.C (Kd.int .u8) w A5 q.f3.length q.f3) (g6 : q.f4.length ≤ c6 ∧ Kd.C (Kd.int .u8) w A6 q.f4.length q.f4) (gx : lx.length ≤ cx ∧ Kd.C (Kd.int .u8) w Ax lx.length lx) (hn : lx.length < 4611686018427387904) (f0 : (q.f0 == 2) = false) (f1 : (q.f0 == 3) = false) (f2 : (q.f0 == 4) = false) :
    Calls Try.prog 46 #[.agg #[.int .u8 q.f0, .int .u64 q.f1, .int .u64 q.f2, .slice A5 q.f3.length c5, .slice A6 q.f4.length c6, .bool q.f5, .int .u8 q.f6], .agg #[.bool false, .slice Ax lx.length cx]] w fun e w' => e = .returned (.tuple #[.int .i64 2, .agg #[.bool false, .slice Ax lx.length cx]]) ∧ Below w.heap.size w w' := by
  have HB := Aside0.mk (Below.refl w.heap.size w)
  have G5 := Aside0.mk g5
  clear g5
  have G6 := Aside0.mk g6
  clear g6
  have GX := Aside0.mk gx
  clear gx
  have HN := Aside0.mk hn
  clear hn
  go_enter Try.func46, Try.ntmps46
  have hu := Try.underlying60
  have hu2 := Try.underlying27
  go_wp2_with (first | ((with_reducible refine gate_dst (N := 2) rfl ?_); (try (refine gate_guard (by rfl) ?_; dsimp only)); refine box_event (by rfl) (N := 2) (by rfl) (cs := #[.int .u8 q.f0, .int .u64 q.f1, .int .u64 q.f2, .slice A5 q.f3.length c5, .slice A6 q.f4.length c6, .bool q.f5, .int .u8 q.f6]) (t := 27) ?hrz135 ?_; (case hrz135 => first | (go_simp; done) | (go_simp; rfl)); intro gq hg_ wq134 hbox hb; have gq_G := gG_ hg_ HB; have gq_B := Aside0.mk hbox; obtain ⟨gq_0, gq_1, gq_2, gq_3, gq_4, gq_5, gq_6, gq_f0, gq_f1, gq_f2, gq_f3, gq_f4, gq_f5, gq_f6⟩ := cz7_ hbox; replace HB := Aside0.mk (below_step HB.out hb); clear hbox hb hg_) | ((with_reducible refine gate_dst (N := 3) rfl ?_); (try (refine gate_guard (by rfl) ?_; dsimp only)); refine box_event (by rfl) (N := 3) (by rfl) (cs := #[.bool false, .slice Ax lx.length cx]) (t := 60) ?hrz137 ?_; (case hrz137 => first | (go_simp; done) | (go_simp; rfl)); intro gx hg_ wq136 hbox hb; have NE_gq_gx := nE1_ hg_ gq_B; have NE_gx_gq := nE2_ hg_ gq_B; have gx_G := gG_ hg_ HB; replace gq_B := Aside0.mk (blk_below gq_B.out hb); clear gq_0 gq_f0 gq_1 gq_f1 gq_2 gq_f2 gq_3 gq_f3 gq_4 gq_f4 gq_5 gq_f5 gq_6 gq_f6; obtain ⟨gq_0, gq_1, gq_2, gq_3, gq_4, gq_5, gq_6, gq_f0, gq_f1, gq_f2, gq_f3, gq_f4, gq_f5, gq_f6⟩ := cz7_ gq_B.out; have gx_B := Aside0.mk hbox; obtain ⟨gx_0, gx_1, gx_f0, gx_f1⟩ := cz2_ hbox; replace HB := Aside0.mk (below_step HB.out hb); clear hbox hb hg_) | ((with_reducible refine gate_dst (N := 5) rfl ?_); (try (refine gate_guard (by rfl) ?_; dsimp only)); refine box_event (by rfl) (N := 5) (by rfl) (cs := #[.bool false, .slice none 0 0]) (t := 60) ?hrz139 ?_; (case hrz139 => first | (go_simp; done) | (go_simp; rfl)); intro gr hg_ wq138 hbox hb; have NE_gq_gr := nE1_ hg_ gq_B; have NE_gr_gq := nE2_ hg_ gq_B; have NE_gx_gr := nE1_ hg_ gx_B; have NE_gr_gx := nE2_ hg_ gx_B; have gr_G := gG_ hg_ HB; replace gq_B := Aside0.mk (blk_below gq_B.out hb); clear gq_0 gq_f0 gq_1 gq_f1 gq_2 gq_f2 gq_3 gq_f3 gq_4 gq_f4 gq_5 gq_f5 gq_6 gq_f6; obtain ⟨gq_0, gq_1, gq_2, gq_3, gq_4, gq_5, gq_6, gq_f0, gq_f1, gq_f2, gq_f3, gq_f4, gq_f5, gq_f6⟩ := cz7_ gq_B.out; replace gx_B := Aside0.mk (blk_below gx_B.out hb); clear gx_0 gx_f0 gx_1 gx_f1; obtain ⟨gx_0, gx_1, gx_f0, gx_f1⟩ := cz2_ gx_B.out; have gr_B := Aside0.mk hbox; obtain ⟨gr_0, gr_1, gr_f0, gr_f1⟩ := cz2_ hbox; replace HB := Aside0.mk (below_step HB.out hb); clear hbox hb hg_) | ((with_reducible refine gate_dst (N := 6) rfl ?_); (try (refine gate_guard (by rfl) ?_; dsimp only)); refine box_event (by rfl) (N := 6) (by rfl) (cs := #[.bool false, .slice none 0 0]) (t := 60) ?hrz141 ?_; (case hrz141 => first | (go_simp; done) | (go_simp; rfl)); intro gs hg_ wq140 hbox hb; have NE_gq_gs := nE1_ hg_ gq_B; have NE_gs_gq := nE2_ hg_ gq_B; have NE_gx_gs := nE1_ hg_ gx_B; have NE_gs_gx := nE2_ hg_ gx_B; have NE_gr_gs := nE1_ hg_ gr_B; have NE_gs_gr := nE2_ hg_ gr_B; have gs_G := gG_ hg_ HB; replace gq_B := Aside0.mk (blk_below gq_B.out hb); clear gq_0 gq_f0 gq_1 gq_f1 gq_2 gq_f2 gq_3 gq_f3 gq_4 gq_f4 gq_5 gq_f5 gq_6 gq_f6; obtain ⟨gq_0, gq_1, gq_2, gq_3, gq_4, gq_5, gq_6, gq_f0, gq_f1, gq_f2, gq_f3, gq_f4, gq_f5, gq_f6⟩ := cz7_ gq_B.out; replace gx_B := Aside0.mk (blk_below gx_B.out hb); clear gx_0 gx_f0 gx_1 gx_f1; obtain ⟨gx_0, gx_1, gx_f0, gx_f1⟩ := cz2_ gx_B.out; replace gr_B := Aside0.mk (blk_below gr_B.out hb); clear gr_0 gr_f0 gr_1 gr_f1; obtain ⟨gr_0, gr_1, gr_f0, gr_f1⟩ := cz2_ gr_B.out; have gs_B := Aside0.mk hbox; obtain ⟨gs_0, gs_1, gs_f0, gs_f1⟩ := cz2_ hbox; replace HB := Aside0.mk (below_step HB.out hb); clear hbox hb hg_) | ((with_reducible refine gate_store (p := 6) rfl ?_); refine st_all (g := gs) 6 [.bool true, .slice A5 q.f3.length c5] ?ttz143 ?xxz143 ?uuz143 ?htz143 ?eez143 gs_B.out ?_; (case eez143 => and_intros <;> rfl); (case htz143 => kernel_rfl); intro wq142 hbox hO; replace gq_B := Aside0.mk (hO.blk NE_gq_gs.out gq_B.out); clear gq_0 gq_f0 gq_1 gq_f1 gq_2 gq_f2 gq_3 gq_f3 gq_4 gq_f4 gq_5 gq_f5 gq_6 gq_f6; obtain ⟨gq_0, gq_1, gq_2, gq_3, gq_4, gq_5, gq_6, gq_f0, gq_f1, gq_f2, gq_f3, gq_f4, gq_f5, gq_f6⟩ := cz7_ gq_B.out; replace gx_B := Aside0.mk (hO.blk NE_gx_gs.out gx_B.out); clear gx_0 gx_f0 gx_1 gx_f1; obtain ⟨gx_0, gx_1, gx_f0, gx_f1⟩ := cz2_ gx_B.out; replace gr_B := Aside0.mk (hO.blk NE_gr_gs.out gr_B.out); clear gr_0 gr_f0 gr_1 gr_f1; obtain ⟨gr_0, gr_1, gr_f0, gr_f1⟩ := cz2_ gr_B.out; clear gs_B; clear gs_0 gs_f0 gs_1 gs_f1; have gs_B := Aside0.mk hbox; obtain ⟨gs_0, gs_1, gs_f0, gs_f1⟩ := cz2_ hbox; replace HB := Aside0.mk (hO.below HB.out gs_G.out); clear hbox hO) | (go_at_call 47; refine (same14_calls true Ax cx lx A6 c6 q.f4 _ ?s0_z145 ?s1_z145 ?s2_z145 ?s3_z145).mono ?_; (case s0_z145 => with_reducible exact lC GX.out HB.out); (case s1_z145 => with_reducible exact lC G6.out HB.out); (case s2_z145 => exact HN.out); (case s3_z145 => exact HS.out); rintro e wq144 ⟨rfl, hb⟩; replace gq_B := Aside0.mk (blk_below gq_B.out hb); clear gq_0 gq_f0 gq_1 gq_f1 gq_2 gq_f2 gq_3 gq_f3 gq_4 gq_f4 gq_5 gq_f5 gq_6 gq_f6; obtain ⟨gq_0, gq_1, gq_2, gq_3, gq_4, gq_5, gq_6, gq_f0, gq_f1, gq_f2, gq_f3, gq_f4, gq_f5, gq_f6⟩ := cz7_ gq_B.out; replace gx_B := Aside0.mk (blk_below gx_B.out hb); clear gx_0 gx_f0 gx_1 gx_f1; obtain ⟨gx_0, gx_1, gx_f0, gx_f1⟩ := cz2_ gx_B.out; replace gr_B := Aside0.mk (blk_below gr_B.out hb); clear gr_0 gr_f0 gr_1 gr_f1; obtain ⟨gr_0, gr_1, gr_f0, gr_f1⟩ := cz2_ gr_B.out; replace gs_B := Aside0.mk (blk_below gs_B.out hb); clear gs_0 gs_f0 gs_1 gs_f1; obtain ⟨gs_0, gs_1, gs_f0, gs_f1⟩ := cz2_ gs_B.out; replace HB := Aside0.mk (below_step HB.out hb); clear hb))
  refine start_w (n := 3) (S := fun w' => w'.cell? ⟨gq, 0, none⟩ = some (.int .u8 q.f0) ∧ w'.cell? ⟨gq, 1, none⟩ = some (.int .u64 q.f1) ∧ w'.cell? ⟨gq, 2, none⟩ = some (.int .u64 q.f2) ∧ w'.cell? ⟨gq, 3, none⟩ = some (.slice A5 q.f3.length c5) ∧ w'.cell? ⟨gq, 4, none⟩ = some (.slice A6 q.f4.length c6) ∧ w'.cell? ⟨gq, 5, none⟩ = some (.bool q.f5) ∧ w'.cell? ⟨gq, 6, none⟩ = some (.int .u8 q.f6) ∧ w'.cell? ⟨gx, 0, none⟩ = some (.bool false) ∧ w'.cell? ⟨gx, 1, none⟩ = some (.slice Ax lx.length cx) ∧ w'.cell? ⟨gs, 0, none⟩ = some (.bool true) ∧ w'.cell? ⟨gs, 1, none⟩ = some (.slice A5 q.f3.length c5)) (ds := []) #[false, false, false] (by kernel_rfl) rfl rfl ?_
  intro wq146 hb
  replace gq_B := Aside0.mk (blk_below gq_B.out hb)
  clear gq_0 gq_f0 gq_1 gq_f1 gq_2 gq_f2 gq_3 gq_f3 gq_4 gq_f4 gq_5 gq_f5 gq_6 gq_f6
  obtain ⟨gq_0, gq_1, gq_2, gq_3, gq_4, gq_5, gq_6, gq_f0, gq_f1, gq_f2, gq_f3, gq_f4, gq_f5, gq_f6⟩ := cz7_ gq_B.out
  replace gx_B := Aside0.mk (blk_below gx_B.out hb)
  clear gx_0 gx_f0 gx_1 gx_f1
  obtain ⟨gx_0, gx_1, gx_f0, gx_f1⟩ := cz2_ gx_B.out
  replace gr_B := Aside0.mk (blk_below gr_B.out hb)
  clear gr_0 gr_f0 gr_1 gr_f1
  obtain ⟨gr_0, gr_1, gr_f0, gr_f1⟩ := cz2_ gr_B.out
  replace gs_B := Aside0.mk (blk_below gs_B.out hb)
  clear gs_0 gs_f0 gs_1 gs_f1
  obtain ⟨gs_0, gs_1, gs_f0, gs_f1⟩ := cz2_ gs_B.out
  replace HB := Aside0.mk (below_step HB.out hb)
  clear hb
  refine pure_ (i := 1) (N := (some 4)) (v := ?_) (a' := ?_) #[false, true, false] rfl rfl (by kernel_rfl) (fun _ _ _ h => h) (Or.inl ⟨by rfl, ?_⟩) ?_ ?_
  rotate_left
  · intro w'; go_simp; with_reducible rfl
  rotate_left
  · simp only [Act.put, List.setIfInBounds_toArray, List.set_cons_zero, List.set_cons_succ, i64_w, i32_w]; rfl
  refine take_ (i := 0) (N := (some 45)) (v := ?_) (a' := ?_) #[true, true, false] rfl rfl (by kernel_rfl) (fun _ _ _ h => h) (Or.inl ⟨by rfl, ?_⟩) ⟨gq_0, gq_1, gq_2, gq_3, gq_4, gq_5, gq_6, gx_0, gx_1, gs_0, gs_1⟩ ?_ ?_
  rotate_left
  · rintro w' ⟨s_0, s_1, s_2, s_3, s_4, s_5, s_6, s_7, s_8, s_9, s_10⟩; go_simp; with_reducible rfl
  rotate_left
  · simp only [Act.put, List.setIfInBounds_toArray, List.set_cons_zero, List.set_cons_succ, i64_w, i32_w]; rfl
  refine one_ (i := 2) (N := none) #[true, true, true] rfl rfl (by kernel_rfl) (by decide) (fun K hK => ?_)
  refine st_allS (g := gr) 5 [.bool false, .slice Ax lx.length cx] ?ttz148 ?xxz148 ?uuz148 ?htz148 (by rfl) ?eez148 gr_B.out ?_
  (case eez148 => and_intros <;> rfl)
  (case htz148 => kernel_rfl)
  intro wq147 hbox hO
  replace gq_B := Aside0.mk (hO.blk NE_gq_gr.out gq_B.out)
  clear gq_0 gq_f0 gq_1 gq_f1 gq_2 gq_f2 gq_3 gq_f3 gq_4 gq_f4 gq_5 gq_f5 gq_6 gq_f6
  obtain ⟨gq_0, gq_1, gq_2, gq_3, gq_4, gq_5, gq_6, gq_f0, gq_f1, gq_f2, gq_f3, gq_f4, gq_f5, gq_f6⟩ := cz7_ gq_B.out
  replace gx_B := Aside0.mk (hO.blk NE_gx_gr.out gx_B.out)
  clear gx_0 gx_f0 gx_1 gx_f1
  obtain ⟨gx_0, gx_1, gx_f0, gx_f1⟩ := cz2_ gx_B.out
  replace gs_B := Aside0.mk (hO.blk NE_gs_gr.out gs_B.out)
  clear gs_0 gs_f0 gs_1 gs_f1
  obtain ⟨gs_0, gs_1, gs_f0, gs_f1⟩ := cz2_ gs_B.out
  clear gr_B
  clear gr_0 gr_f0 gr_1 gr_f1
  have gr_B := Aside0.mk hbox
  obtain ⟨gr_0, gr_1, gr_f0, gr_f1⟩ := cz2_ hbox
  replace HB := Aside0.mk (hO.below HB.out gr_G.out)
  clear hbox hO
  refine hK.out _ _ ⟨gq_0, gq_1, gq_2, gq_3, gq_4, gq_5, gq_6, gx_0, gx_1, gs_0, gs_1⟩ (fun _ => ?_)
  clear hK K
  refine norm_ (a' := ?_) ?_ ?_
  rotate_left
  · rfl
  refine done_ (by kernel_rfl) ?_
  go_wp2
  refine bodyPost_ret (results_tc rfl _ _ gr 60 #[.bool false, .slice Ax lx.length cx] (0, 0) _ rfl gr_B.out Try.underlying60 rfl (by kernel_rfl)) rfl ?_
  exact ⟨rfl, HB.out⟩
end Go.Proofs.Ytdjdbjcapenjeaa.P
