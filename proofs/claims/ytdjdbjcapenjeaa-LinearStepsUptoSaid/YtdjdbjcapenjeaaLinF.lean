/- shardlaw14.unchanged answers true of calls that read alike. -/
import Derived.Test.YtdjdbjcapenjeaaLinE
import Derived.Test.YtdjdbjcapenjeaaPx8
namespace Go.Proofs.Ytdjdbjcapenjeaa.P
open Go.RowKit Go.Proofs.YtdjdbjcapenjeaaW.PrintWords Go.Proofs.YtdjdbjcapenjeaaW.PrintLast Go.Proofs.YtdjdbjcapenjeaaW.PrintMore
set_option linter.unusedVariables false
set_option linter.unusedSimpArgs false
theorem same11_l (l : List Int) (hn : l.length < 4611686018427387904) : ∀ (d k : Nat) (i : Int), 0 ≤ i → (l.length : Int) - i = d → d < k → shardlaw14_same.l0 k l l i = some true := by
  intro d
  induction d with
  | zero =>
    intro k i h0 hd hk
    obtain ⟨k, rfl⟩ : ∃ m, k = m + 1 := ⟨k - 1, by omega⟩
    simp only [shardlaw14_same.l0]
    rw [if_neg (by omega)]
  | succ d ih =>
    intro k i h0 hd hk
    obtain ⟨k, rfl⟩ : ∃ m, k = m + 1 := ⟨k - 1, by omega⟩
    simp only [shardlaw14_same.l0]
    rw [if_pos (by omega), if_pos h0, if_pos (by omega), if_pos trivial, show wrap64 (i + 1) = i + 1 from by unfold wrap64; omega]
    exact ih k (i + 1) (by omega) (by omega) (by omega)
theorem same11_calls (A0 : Option Addr) (c0 : Nat) (A1 : Option Addr) (c1 : Nat) (l : List Int) (w : World) (hn : l.length < 4611686018427387904) (hr0 : RdL w A0 c0 l) (hr1 : RdL w A1 c1 l) :
    Calls Try.prog 12 #[.slice A0 l.length c0, .slice A1 l.length c1] w fun e w' => e = .returned (.bool true) ∧ Below w.heap.size w w' :=
  (shardlaw14_same.calls (l.length + 1) A0 c0 l A1 c1 l true w hr0.2 hr0.1 hr1.2 hr1.1 (by unfold shardlaw14_same.f; rw [if_pos rfl]; exact same11_l l hn l.length _ 0 (Int.le_refl 0) (by omega) (by omega))).mono fun e w' h => ⟨h.1, h.2.below⟩
set_option maxHeartbeats 8000000 in
set_option maxRecDepth 100000 in
theorem unchanged_calls (A0 : Option Addr) (c0 : Nat) (A1 : Option Addr) (c1 : Nat) (l : List S30) (w : World) (hr0 : Kd.C k30 w A0 l.length l) (hr1 : Kd.C k30 w A1 l.length l) (hc0 : l.length ≤ c0) (hc1 : l.length ≤ c1) (hn : l.length < 4611686018427387904)
    (hv : ∀ c ∈ l, c.f2.f3.length < 4611686018427387904 ∧ c.f2.f4.length < 4611686018427387904 ∧ c.f4.length < 4611686018427387904) :
    Calls Try.prog 13 #[.slice A0 l.length c0, .slice A1 l.length c1] w fun e w' => e = .returned (.bool true) ∧ Below w.heap.size w w' := by
  have hu := Try.underlying30
  have HR0 := Aside0.mk hr0
  have HR1 := Aside0.mk hr1
  have HV := Aside0.mk hv
  have HB := Aside0.mk (Below.refl w.heap.size w)
  clear hr0 hr1 hv
  go_enter Try.func13, Try.ntmps13
  go_wp2
  go_loopg [5] (l.length + 1) (fun kq v5 w' => ∃ x : Int, v5 = .int .i64 x ∧ Aside0 (0 ≤ x ∧ x + kq = l.length + 1) ∧ Aside0 (Below w.heap.size w w'))
  case atStart => exact ⟨0, (by first | rfl | (simp; done)), ⟨by omega⟩, HB⟩
  case round =>
    clear HB
    obtain ⟨x, rfl, HI, HB⟩ := hrel
    have hx0 : 0 ≤ x := HI.out.1
    by_cases hlt : x < (l.length : Int)
    · obtain ⟨ad, A5, c5, A6, c6, A10, c10, rfl, a0, a1, a2, a3, a4, a5, a6, a7, a8, a9, a10, a11, a12, p1, p2, p3, p4, p5, p6⟩ := at_T30 HR0.out x hx0 hlt
      obtain ⟨bd, B5, d5, B6, d6, B10, d10, rfl, b0, b1, b2, b3, b4, b5, b6, b7, b8, b9, b10, b11, b12, q1, q2, q3, q4, q5, q6⟩ := at_T30 HR1.out x hx0 hlt
      obtain ⟨v1, v2, v3⟩ := HV.out (rd_T30 l x) (by unfold rd_T30; rw [List.getD_eq_getElem?_getD, List.getElem?_eq_getElem (by omega), Option.getD_some]; exact List.getElem_mem _)
      generalize rd_T30 l x = c at a0 a1 a2 a3 a4 a5 a6 a7 a8 a9 a10 a11 a12 p1 p2 p3 p4 p5 p6 b0 b1 b2 b3 b4 b5 b6 b7 b8 b9 b10 b11 b12 q1 q2 q3 q4 q5 q6 v1 v2 v3
      have la := World.block_lt_of_cell? w _ a0
      have lb := World.block_lt_of_cell? w _ b0
      have G5 := Aside0.mk (show RdL w A5 c5 c.f2.f3 from ⟨p1, p2⟩)
      have G6 := Aside0.mk (show RdL w A6 c6 c.f2.f4 from ⟨p3, p4⟩)
      have G10 := Aside0.mk (show RdL w A10 c10 c.f4 from ⟨p5, p6⟩)
      have K5 := Aside0.mk (show RdL w B5 d5 c.f2.f3 from ⟨q1, q2⟩)
      have K6 := Aside0.mk (show RdL w B6 d6 c.f2.f4 from ⟨q3, q4⟩)
      have K10 := Aside0.mk (show RdL w B10 d10 c.f4 from ⟨q5, q6⟩)
      have HV5 := Aside0.mk v1
      have HV6 := Aside0.mk v2
      have HV10 := Aside0.mk v3
      clear p1 p2 p3 p4 p5 p6 q1 q2 q3 q4 q5 q6 v1 v2 v3
      replace a0 := pw_cell_below HB.out a0
      replace b0 := pw_cell_below HB.out b0
      replace a1 := pw_cell_below HB.out a1
      replace b1 := pw_cell_below HB.out b1
      replace a2 := pw_cell_below HB.out a2
      replace b2 := pw_cell_below HB.out b2
      replace a3 := pw_cell_below HB.out a3
      replace b3 := pw_cell_below HB.out b3
      replace a4 := pw_cell_below HB.out a4
      replace b4 := pw_cell_below HB.out b4
      replace a5 := pw_cell_below HB.out a5
      replace b5 := pw_cell_below HB.out b5
      replace a6 := pw_cell_below HB.out a6
      replace b6 := pw_cell_below HB.out b6
      replace a7 := pw_cell_below HB.out a7
      replace b7 := pw_cell_below HB.out b7
      replace a8 := pw_cell_below HB.out a8
      replace b8 := pw_cell_below HB.out b8
      replace a9 := pw_cell_below HB.out a9
      replace b9 := pw_cell_below HB.out b9
      replace a10 := pw_cell_below HB.out a10
      replace b10 := pw_cell_below HB.out b10
      replace a11 := pw_cell_below HB.out a11
      replace b11 := pw_cell_below HB.out b11
      replace a12 := pw_cell_below HB.out a12
      replace b12 := pw_cell_below HB.out b12

      have ht0 : decide (x < (l.length : Int)) = true := decide_eq_true hlt
      have ht1 : decide (0 ≤ x) = true := decide_eq_true hx0
      
      go_upto_region 7 with (fail)
      go_cut [6, 7] (fun v6 v7 wc => ∃ g6 g7 : Nat, v6 = .pointer (some ⟨g6, 0, none⟩) ∧ v7 = .pointer (some ⟨g7, 0, none⟩) ∧ Aside0 (wc.heap[g6]? = some (.cells #[.int .u8 c.f0, .int .u64 c.f1, .int .u8 c.f2.f0, .int .u64 c.f2.f1, .int .u64 c.f2.f2, .slice A5 c.f2.f3.length c5, .slice A6 c.f2.f4.length c6, .bool c.f2.f5, .int .u8 c.f2.f6, .int .u8 c.f3, .slice A10 c.f4.length c10, .int .i64 c.f5, .int .i64 c.f6] 30 (0, 0))) ∧ Aside0 (wc.heap[g7]? = some (.cells #[.int .u8 c.f0, .int .u64 c.f1, .int .u8 c.f2.f0, .int .u64 c.f2.f1, .int .u64 c.f2.f2, .slice B5 c.f2.f3.length d5, .slice B6 c.f2.f4.length d6, .bool c.f2.f5, .int .u8 c.f2.f6, .int .u8 c.f3, .slice B10 c.f4.length d10, .int .i64 c.f5, .int .i64 c.f6] 30 (0, 0))) ∧ Aside0 (Below w.heap.size w wc))
      case first =>
        refine start_w (n := 12) (S := fun w' => w'.cell? (ad.add (x.toNat * 13)) = some (.int .u8 c.f0) ∧ w'.cell? (bd.add (x.toNat * 13)) = some (.int .u8 c.f0) ∧ w'.cell? ⟨(ad.add (x.toNat * 13)).block, (ad.add (x.toNat * 13)).off + 1, none⟩ = some (.int .u64 c.f1) ∧ w'.cell? ⟨(bd.add (x.toNat * 13)).block, (bd.add (x.toNat * 13)).off + 1, none⟩ = some (.int .u64 c.f1) ∧ w'.cell? ⟨(ad.add (x.toNat * 13)).block, (ad.add (x.toNat * 13)).off + 2, none⟩ = some (.int .u8 c.f2.f0) ∧ w'.cell? ⟨(bd.add (x.toNat * 13)).block, (bd.add (x.toNat * 13)).off + 2, none⟩ = some (.int .u8 c.f2.f0) ∧ w'.cell? ⟨(ad.add (x.toNat * 13)).block, (ad.add (x.toNat * 13)).off + 3, none⟩ = some (.int .u64 c.f2.f1) ∧ w'.cell? ⟨(bd.add (x.toNat * 13)).block, (bd.add (x.toNat * 13)).off + 3, none⟩ = some (.int .u64 c.f2.f1) ∧ w'.cell? ⟨(ad.add (x.toNat * 13)).block, (ad.add (x.toNat * 13)).off + 4, none⟩ = some (.int .u64 c.f2.f2) ∧ w'.cell? ⟨(bd.add (x.toNat * 13)).block, (bd.add (x.toNat * 13)).off + 4, none⟩ = some (.int .u64 c.f2.f2) ∧ w'.cell? ⟨(ad.add (x.toNat * 13)).block, (ad.add (x.toNat * 13)).off + 5, none⟩ = some (.slice A5 c.f2.f3.length c5) ∧ w'.cell? ⟨(bd.add (x.toNat * 13)).block, (bd.add (x.toNat * 13)).off + 5, none⟩ = some (.slice B5 c.f2.f3.length d5) ∧ w'.cell? ⟨(ad.add (x.toNat * 13)).block, (ad.add (x.toNat * 13)).off + 6, none⟩ = some (.slice A6 c.f2.f4.length c6) ∧ w'.cell? ⟨(bd.add (x.toNat * 13)).block, (bd.add (x.toNat * 13)).off + 6, none⟩ = some (.slice B6 c.f2.f4.length d6) ∧ w'.cell? ⟨(ad.add (x.toNat * 13)).block, (ad.add (x.toNat * 13)).off + 7, none⟩ = some (.bool c.f2.f5) ∧ w'.cell? ⟨(bd.add (x.toNat * 13)).block, (bd.add (x.toNat * 13)).off + 7, none⟩ = some (.bool c.f2.f5) ∧ w'.cell? ⟨(ad.add (x.toNat * 13)).block, (ad.add (x.toNat * 13)).off + 8, none⟩ = some (.int .u8 c.f2.f6) ∧ w'.cell? ⟨(bd.add (x.toNat * 13)).block, (bd.add (x.toNat * 13)).off + 8, none⟩ = some (.int .u8 c.f2.f6) ∧ w'.cell? ⟨(ad.add (x.toNat * 13)).block, (ad.add (x.toNat * 13)).off + 9, none⟩ = some (.int .u8 c.f3) ∧ w'.cell? ⟨(bd.add (x.toNat * 13)).block, (bd.add (x.toNat * 13)).off + 9, none⟩ = some (.int .u8 c.f3) ∧ w'.cell? ⟨(ad.add (x.toNat * 13)).block, (ad.add (x.toNat * 13)).off + 10, none⟩ = some (.slice A10 c.f4.length c10) ∧ w'.cell? ⟨(bd.add (x.toNat * 13)).block, (bd.add (x.toNat * 13)).off + 10, none⟩ = some (.slice B10 c.f4.length d10) ∧ w'.cell? ⟨(ad.add (x.toNat * 13)).block, (ad.add (x.toNat * 13)).off + 11, none⟩ = some (.int .i64 c.f5) ∧ w'.cell? ⟨(bd.add (x.toNat * 13)).block, (bd.add (x.toNat * 13)).off + 11, none⟩ = some (.int .i64 c.f5) ∧ w'.cell? ⟨(ad.add (x.toNat * 13)).block, (ad.add (x.toNat * 13)).off + 12, none⟩ = some (.int .i64 c.f6) ∧ w'.cell? ⟨(bd.add (x.toNat * 13)).block, (bd.add (x.toNat * 13)).off + 12, none⟩ = some (.int .i64 c.f6)) (ds := []) (bl_ 12 0) (by kernel_rfl) rfl rfl ?_
        intro wq1 hb
        have t_ := pb13_ hb a0 a1 a2 a3 a4 a5 a6 a7 a8 a9 a10 a11 a12
        clear a0 a1 a2 a3 a4 a5 a6 a7 a8 a9 a10 a11 a12
        obtain ⟨a0, a1, a2, a3, a4, a5, a6, a7, a8, a9, a10, a11, a12⟩ := t_
        have t_ := pb13_ hb b0 b1 b2 b3 b4 b5 b6 b7 b8 b9 b10 b11 b12
        clear b0 b1 b2 b3 b4 b5 b6 b7 b8 b9 b10 b11 b12
        obtain ⟨b0, b1, b2, b3, b4, b5, b6, b7, b8, b9, b10, b11, b12⟩ := t_
        replace HB := Aside0.mk (below_step HB.out hb)
        clear hb
        refine pure_ (i := 0) (N := (some 19)) (v := ?_) (a' := ?_) (bl_ 12 1) rfl rfl (by kernel_rfl) (fun _ _ _ h => h) (Or.inl ⟨by rfl, ?_⟩) ?_ ?_
        rotate_left
        · intro w'; go_simp; with_reducible rfl
        rotate_left
        · simp only [Act.put, List.setIfInBounds_toArray, List.set_cons_zero, List.set_cons_succ, i64_w, i32_w]; rfl
        refine pure_ (i := 1) (N := (some 20)) (v := ?_) (a' := ?_) (bl_ 12 3) rfl rfl (by kernel_rfl) (fun _ _ _ h => h) (Or.inl ⟨by rfl, ?_⟩) ?_ ?_
        rotate_left
        · intro w'; go_simp; with_reducible rfl
        rotate_left
        · simp only [Act.put, List.setIfInBounds_toArray, List.set_cons_zero, List.set_cons_succ, i64_w, i32_w]; rfl
        refine pure_ (i := 2) (N := (some 21)) (v := ?_) (a' := ?_) (bl_ 12 7) rfl rfl (by kernel_rfl) (fun _ _ _ h => h) (Or.inl ⟨by rfl, ?_⟩) ?_ ?_
        rotate_left
        · intro w'; go_simp; with_reducible rfl
        rotate_left
        · simp only [Act.put, List.setIfInBounds_toArray, List.set_cons_zero, List.set_cons_succ, i64_w, i32_w]; rfl
        refine pure_ (i := 4) (N := (some 23)) (v := ?_) (a' := ?_) (bl_ 12 23) rfl rfl (by kernel_rfl) (fun _ _ _ h => h) (Or.inl ⟨by rfl, ?_⟩) ?_ ?_
        rotate_left
        · intro w'; go_simp; with_reducible rfl
        rotate_left
        · simp only [Act.put, List.setIfInBounds_toArray, List.set_cons_zero, List.set_cons_succ, i64_w, i32_w]; rfl
        refine pure_ (i := 5) (N := (some 24)) (v := ?_) (a' := ?_) (bl_ 12 55) rfl rfl (by kernel_rfl) (fun _ _ _ h => h) (Or.inl ⟨by rfl, ?_⟩) ?_ ?_
        rotate_left
        · intro w'; go_simp; with_reducible rfl
        rotate_left
        · simp only [Act.put, List.setIfInBounds_toArray, List.set_cons_zero, List.set_cons_succ, i64_w, i32_w]; rfl
        refine pure_ (i := 6) (N := (some 25)) (v := ?_) (a' := ?_) (bl_ 12 119) rfl rfl (by kernel_rfl) (fun _ _ _ h => h) (Or.inl ⟨by rfl, ?_⟩) ?_ ?_
        rotate_left
        · intro w'; go_simp; with_reducible rfl
        rotate_left
        · simp only [Act.put, List.setIfInBounds_toArray, List.set_cons_zero, List.set_cons_succ, i64_w, i32_w]; rfl
        refine take_ (i := 3) (N := (some 22)) (v := ?_) (a' := ?_) (bl_ 12 127) rfl rfl (by kernel_rfl) (fun _ _ _ h => h) (Or.inl ⟨by rfl, ?_⟩) ⟨a0, b0, a1, b1, a2, b2, a3, b3, a4, b4, a5, b5, a6, b6, a7, b7, a8, b8, a9, b9, a10, b10, a11, b11, a12, b12⟩ ?_ ?_
        rotate_left
        · rintro w' ⟨s_0, s_1, s_2, s_3, s_4, s_5, s_6, s_7, s_8, s_9, s_10, s_11, s_12, s_13, s_14, s_15, s_16, s_17, s_18, s_19, s_20, s_21, s_22, s_23, s_24, s_25⟩; go_simp; with_reducible rfl
        rotate_left
        · simp only [Act.put, List.setIfInBounds_toArray, List.set_cons_zero, List.set_cons_succ, i64_w, i32_w]; rfl
        refine take_ (i := 7) (N := (some 26)) (v := ?_) (a' := ?_) (bl_ 12 255) rfl rfl (by kernel_rfl) (fun _ _ _ h => h) (Or.inl ⟨by rfl, ?_⟩) ⟨a0, b0, a1, b1, a2, b2, a3, b3, a4, b4, a5, b5, a6, b6, a7, b7, a8, b8, a9, b9, a10, b10, a11, b11, a12, b12⟩ ?_ ?_
        rotate_left
        · rintro w' ⟨s_0, s_1, s_2, s_3, s_4, s_5, s_6, s_7, s_8, s_9, s_10, s_11, s_12, s_13, s_14, s_15, s_16, s_17, s_18, s_19, s_20, s_21, s_22, s_23, s_24, s_25⟩; go_simp; with_reducible rfl
        rotate_left
        · simp only [Act.put, List.setIfInBounds_toArray, List.set_cons_zero, List.set_cons_succ, i64_w, i32_w]; rfl
        refine two_ (i := 8) (j := 9) (Ni := (some 6)) (Nj := (some 7)) (bl_ 12 511) (bl_ 12 767) rfl rfl rfl rfl (by kernel_rfl) (by decide) (by decide) (fun K hK => ?_) (fun K hK => ?_)
        · skip
          refine box_step ?hwz3 (N := 6) ?hdz3 (cs := #[.int .u8 0, .int .u64 0, .int .u8 0, .int .u64 0, .int .u64 0, .slice none 0 0, .slice none 0 0, .bool false, .int .u8 0, .int .u8 0, .slice none 0 0, .int .i64 0, .int .i64 0]) (t := 30) ?hrz3 ?_
          (case hwz3 => rfl)
          (case hdz3 => rfl)
          (case hrz3 => first | (go_simp; done) | (go_simp; rfl))
          intro g6 hg_ wq2 hbox hb
          have g6_G := gG_ hg_ HB
          have t_ := pb13_ hb a0 a1 a2 a3 a4 a5 a6 a7 a8 a9 a10 a11 a12
          clear a0 a1 a2 a3 a4 a5 a6 a7 a8 a9 a10 a11 a12
          obtain ⟨a0, a1, a2, a3, a4, a5, a6, a7, a8, a9, a10, a11, a12⟩ := t_
          have t_ := pb13_ hb b0 b1 b2 b3 b4 b5 b6 b7 b8 b9 b10 b11 b12
          clear b0 b1 b2 b3 b4 b5 b6 b7 b8 b9 b10 b11 b12
          obtain ⟨b0, b1, b2, b3, b4, b5, b6, b7, b8, b9, b10, b11, b12⟩ := t_
          have g6_B := Aside0.mk hbox
          obtain ⟨g6_0, g6_1, g6_2, g6_3, g6_4, g6_5, g6_6, g6_7, g6_8, g6_9, g6_10, g6_11, g6_12, g6_f0, g6_f1, g6_f2, g6_f3, g6_f4, g6_f5, g6_f6, g6_f7, g6_f8, g6_f9, g6_f10, g6_f11, g6_f12⟩ := cz13_ hbox
          replace HB := Aside0.mk (below_step HB.out hb)
          clear hbox hb hg_
          refine hK.out _ _ ⟨a0, b0, a1, b1, a2, b2, a3, b3, a4, b4, a5, b5, a6, b6, a7, b7, a8, b8, a9, b9, a10, b10, a11, b11, a12, b12⟩ (fun _ => ?_)
          clear hK K
          refine norm_ (a' := ?_) ?_ ?_
          rotate_left
          · show Act.put _ (some 6) _ = _; simp only [Act.put, List.setIfInBounds_toArray, List.set_cons_zero, List.set_cons_succ, i64_w, i32_w]; rfl
          refine one_ (i := 9) (N := (some 7)) (bl_ 12 1023) rfl rfl (by kernel_rfl) (by decide) (fun K hK => ?_)
          refine box_step ?hwz5 (N := 7) ?hdz5 (cs := #[.int .u8 0, .int .u64 0, .int .u8 0, .int .u64 0, .int .u64 0, .slice none 0 0, .slice none 0 0, .bool false, .int .u8 0, .int .u8 0, .slice none 0 0, .int .i64 0, .int .i64 0]) (t := 30) ?hrz5 ?_
          (case hwz5 => rfl)
          (case hdz5 => rfl)
          (case hrz5 => first | (go_simp; done) | (go_simp; rfl))
          intro g7 hg_ wq4 hbox hb
          have NE_g6_g7 := nE1_ hg_ g6_B
          have NE_g7_g6 := nE2_ hg_ g6_B
          have g7_G := gG_ hg_ HB
          have t_ := pb13_ hb a0 a1 a2 a3 a4 a5 a6 a7 a8 a9 a10 a11 a12
          clear a0 a1 a2 a3 a4 a5 a6 a7 a8 a9 a10 a11 a12
          obtain ⟨a0, a1, a2, a3, a4, a5, a6, a7, a8, a9, a10, a11, a12⟩ := t_
          have t_ := pb13_ hb b0 b1 b2 b3 b4 b5 b6 b7 b8 b9 b10 b11 b12
          clear b0 b1 b2 b3 b4 b5 b6 b7 b8 b9 b10 b11 b12
          obtain ⟨b0, b1, b2, b3, b4, b5, b6, b7, b8, b9, b10, b11, b12⟩ := t_
          replace g6_B := Aside0.mk (blk_below g6_B.out hb)
          clear g6_0 g6_f0 g6_1 g6_f1 g6_2 g6_f2 g6_3 g6_f3 g6_4 g6_f4 g6_5 g6_f5 g6_6 g6_f6 g6_7 g6_f7 g6_8 g6_f8 g6_9 g6_f9 g6_10 g6_f10 g6_11 g6_f11 g6_12 g6_f12
          obtain ⟨g6_0, g6_1, g6_2, g6_3, g6_4, g6_5, g6_6, g6_7, g6_8, g6_9, g6_10, g6_11, g6_12, g6_f0, g6_f1, g6_f2, g6_f3, g6_f4, g6_f5, g6_f6, g6_f7, g6_f8, g6_f9, g6_f10, g6_f11, g6_f12⟩ := cz13_ g6_B.out
          have g7_B := Aside0.mk hbox
          obtain ⟨g7_0, g7_1, g7_2, g7_3, g7_4, g7_5, g7_6, g7_7, g7_8, g7_9, g7_10, g7_11, g7_12, g7_f0, g7_f1, g7_f2, g7_f3, g7_f4, g7_f5, g7_f6, g7_f7, g7_f8, g7_f9, g7_f10, g7_f11, g7_f12⟩ := cz13_ hbox
          replace HB := Aside0.mk (below_step HB.out hb)
          clear hbox hb hg_
          refine hK.out _ _ ⟨a0, b0, a1, b1, a2, b2, a3, b3, a4, b4, a5, b5, a6, b6, a7, b7, a8, b8, a9, b9, a10, b10, a11, b11, a12, b12⟩ (fun _ => ?_)
          clear hK K
          refine norm_ (a' := ?_) ?_ ?_
          rotate_left
          · show Act.put _ (some 7) _ = _; simp only [Act.put, List.setIfInBounds_toArray, List.set_cons_zero, List.set_cons_succ, i64_w, i32_w]; rfl
          refine one_ (i := 10) (N := none) (bl_ 12 2047) rfl rfl (by kernel_rfl) (by decide) (fun K hK => ?_)
          refine st_allS (g := g6) 6 [.int .u8 c.f0, .int .u64 c.f1, .int .u8 c.f2.f0, .int .u64 c.f2.f1, .int .u64 c.f2.f2, .slice A5 c.f2.f3.length c5, .slice A6 c.f2.f4.length c6, .bool c.f2.f5, .int .u8 c.f2.f6, .int .u8 c.f3, .slice A10 c.f4.length c10, .int .i64 c.f5, .int .i64 c.f6] ?ttz7 ?xxz7 ?uuz7 ?htz7 (by rfl) ?eez7 g6_B.out ?_
          (case eez7 => and_intros <;> rfl)
          (case htz7 => kernel_rfl)
          intro wq6 hbox hO
          have e_ := Nat.ne_of_lt (Nat.lt_of_lt_of_le la g6_G.out)
          have t_ := on13_ hO a0 a1 a2 a3 a4 a5 a6 a7 a8 a9 a10 a11 a12 e_ e_ e_ e_ e_ e_ e_ e_ e_ e_ e_ e_ e_
          clear e_ a0 a1 a2 a3 a4 a5 a6 a7 a8 a9 a10 a11 a12
          obtain ⟨a0, a1, a2, a3, a4, a5, a6, a7, a8, a9, a10, a11, a12⟩ := t_
          have e_ := Nat.ne_of_lt (Nat.lt_of_lt_of_le lb g6_G.out)
          have t_ := on13_ hO b0 b1 b2 b3 b4 b5 b6 b7 b8 b9 b10 b11 b12 e_ e_ e_ e_ e_ e_ e_ e_ e_ e_ e_ e_ e_
          clear e_ b0 b1 b2 b3 b4 b5 b6 b7 b8 b9 b10 b11 b12
          obtain ⟨b0, b1, b2, b3, b4, b5, b6, b7, b8, b9, b10, b11, b12⟩ := t_
          replace g7_B := Aside0.mk (hO.blk NE_g7_g6.out g7_B.out)
          clear g7_0 g7_f0 g7_1 g7_f1 g7_2 g7_f2 g7_3 g7_f3 g7_4 g7_f4 g7_5 g7_f5 g7_6 g7_f6 g7_7 g7_f7 g7_8 g7_f8 g7_9 g7_f9 g7_10 g7_f10 g7_11 g7_f11 g7_12 g7_f12
          obtain ⟨g7_0, g7_1, g7_2, g7_3, g7_4, g7_5, g7_6, g7_7, g7_8, g7_9, g7_10, g7_11, g7_12, g7_f0, g7_f1, g7_f2, g7_f3, g7_f4, g7_f5, g7_f6, g7_f7, g7_f8, g7_f9, g7_f10, g7_f11, g7_f12⟩ := cz13_ g7_B.out
          clear g6_B
          clear g6_0 g6_f0 g6_1 g6_f1 g6_2 g6_f2 g6_3 g6_f3 g6_4 g6_f4 g6_5 g6_f5 g6_6 g6_f6 g6_7 g6_f7 g6_8 g6_f8 g6_9 g6_f9 g6_10 g6_f10 g6_11 g6_f11 g6_12 g6_f12
          have g6_B := Aside0.mk hbox
          obtain ⟨g6_0, g6_1, g6_2, g6_3, g6_4, g6_5, g6_6, g6_7, g6_8, g6_9, g6_10, g6_11, g6_12, g6_f0, g6_f1, g6_f2, g6_f3, g6_f4, g6_f5, g6_f6, g6_f7, g6_f8, g6_f9, g6_f10, g6_f11, g6_f12⟩ := cz13_ hbox
          replace HB := Aside0.mk (hO.below HB.out g6_G.out)
          clear hbox hO
          refine hK.out _ _ ⟨a0, b0, a1, b1, a2, b2, a3, b3, a4, b4, a5, b5, a6, b6, a7, b7, a8, b8, a9, b9, a10, b10, a11, b11, a12, b12⟩ (fun _ => ?_)
          clear hK K
          refine norm_ (a' := ?_) ?_ ?_
          rotate_left
          · rfl
          refine one_ (i := 11) (N := none) (bl_ 12 4095) rfl rfl (by kernel_rfl) (by decide) (fun K hK => ?_)
          refine st_allS (g := g7) 7 [.int .u8 c.f0, .int .u64 c.f1, .int .u8 c.f2.f0, .int .u64 c.f2.f1, .int .u64 c.f2.f2, .slice B5 c.f2.f3.length d5, .slice B6 c.f2.f4.length d6, .bool c.f2.f5, .int .u8 c.f2.f6, .int .u8 c.f3, .slice B10 c.f4.length d10, .int .i64 c.f5, .int .i64 c.f6] ?ttz9 ?xxz9 ?uuz9 ?htz9 (by rfl) ?eez9 g7_B.out ?_
          (case eez9 => and_intros <;> rfl)
          (case htz9 => kernel_rfl)
          intro wq8 hbox hO
          have e_ := Nat.ne_of_lt (Nat.lt_of_lt_of_le la g7_G.out)
          have t_ := on13_ hO a0 a1 a2 a3 a4 a5 a6 a7 a8 a9 a10 a11 a12 e_ e_ e_ e_ e_ e_ e_ e_ e_ e_ e_ e_ e_
          clear e_ a0 a1 a2 a3 a4 a5 a6 a7 a8 a9 a10 a11 a12
          obtain ⟨a0, a1, a2, a3, a4, a5, a6, a7, a8, a9, a10, a11, a12⟩ := t_
          have e_ := Nat.ne_of_lt (Nat.lt_of_lt_of_le lb g7_G.out)
          have t_ := on13_ hO b0 b1 b2 b3 b4 b5 b6 b7 b8 b9 b10 b11 b12 e_ e_ e_ e_ e_ e_ e_ e_ e_ e_ e_ e_ e_
          clear e_ b0 b1 b2 b3 b4 b5 b6 b7 b8 b9 b10 b11 b12
          obtain ⟨b0, b1, b2, b3, b4, b5, b6, b7, b8, b9, b10, b11, b12⟩ := t_
          replace g6_B := Aside0.mk (hO.blk NE_g6_g7.out g6_B.out)
          clear g6_0 g6_f0 g6_1 g6_f1 g6_2 g6_f2 g6_3 g6_f3 g6_4 g6_f4 g6_5 g6_f5 g6_6 g6_f6 g6_7 g6_f7 g6_8 g6_f8 g6_9 g6_f9 g6_10 g6_f10 g6_11 g6_f11 g6_12 g6_f12
          obtain ⟨g6_0, g6_1, g6_2, g6_3, g6_4, g6_5, g6_6, g6_7, g6_8, g6_9, g6_10, g6_11, g6_12, g6_f0, g6_f1, g6_f2, g6_f3, g6_f4, g6_f5, g6_f6, g6_f7, g6_f8, g6_f9, g6_f10, g6_f11, g6_f12⟩ := cz13_ g6_B.out
          clear g7_B
          clear g7_0 g7_f0 g7_1 g7_f1 g7_2 g7_f2 g7_3 g7_f3 g7_4 g7_f4 g7_5 g7_f5 g7_6 g7_f6 g7_7 g7_f7 g7_8 g7_f8 g7_9 g7_f9 g7_10 g7_f10 g7_11 g7_f11 g7_12 g7_f12
          have g7_B := Aside0.mk hbox
          obtain ⟨g7_0, g7_1, g7_2, g7_3, g7_4, g7_5, g7_6, g7_7, g7_8, g7_9, g7_10, g7_11, g7_12, g7_f0, g7_f1, g7_f2, g7_f3, g7_f4, g7_f5, g7_f6, g7_f7, g7_f8, g7_f9, g7_f10, g7_f11, g7_f12⟩ := cz13_ hbox
          replace HB := Aside0.mk (hO.below HB.out g7_G.out)
          clear hbox hO
          refine hK.out _ _ ⟨a0, b0, a1, b1, a2, b2, a3, b3, a4, b4, a5, b5, a6, b6, a7, b7, a8, b8, a9, b9, a10, b10, a11, b11, a12, b12⟩ (fun _ => ?_)
          clear hK K
          refine norm_ (a' := ?_) ?_ ?_
          rotate_left
          · rfl
          refine done_ (by kernel_rfl) ?_
          go_wp2
          go_meet
          case rel => exact ⟨g6, g7, rfl, rfl, g6_B, g7_B, HB⟩
        · skip
          refine box_step ?hwz11 (N := 7) ?hdz11 (cs := #[.int .u8 0, .int .u64 0, .int .u8 0, .int .u64 0, .int .u64 0, .slice none 0 0, .slice none 0 0, .bool false, .int .u8 0, .int .u8 0, .slice none 0 0, .int .i64 0, .int .i64 0]) (t := 30) ?hrz11 ?_
          (case hwz11 => rfl)
          (case hdz11 => rfl)
          (case hrz11 => first | (go_simp; done) | (go_simp; rfl))
          intro g7 hg_ wq10 hbox hb
          have g7_G := gG_ hg_ HB
          have t_ := pb13_ hb a0 a1 a2 a3 a4 a5 a6 a7 a8 a9 a10 a11 a12
          clear a0 a1 a2 a3 a4 a5 a6 a7 a8 a9 a10 a11 a12
          obtain ⟨a0, a1, a2, a3, a4, a5, a6, a7, a8, a9, a10, a11, a12⟩ := t_
          have t_ := pb13_ hb b0 b1 b2 b3 b4 b5 b6 b7 b8 b9 b10 b11 b12
          clear b0 b1 b2 b3 b4 b5 b6 b7 b8 b9 b10 b11 b12
          obtain ⟨b0, b1, b2, b3, b4, b5, b6, b7, b8, b9, b10, b11, b12⟩ := t_
          have g7_B := Aside0.mk hbox
          obtain ⟨g7_0, g7_1, g7_2, g7_3, g7_4, g7_5, g7_6, g7_7, g7_8, g7_9, g7_10, g7_11, g7_12, g7_f0, g7_f1, g7_f2, g7_f3, g7_f4, g7_f5, g7_f6, g7_f7, g7_f8, g7_f9, g7_f10, g7_f11, g7_f12⟩ := cz13_ hbox
          replace HB := Aside0.mk (below_step HB.out hb)
          clear hbox hb hg_
          refine hK.out _ _ ⟨a0, b0, a1, b1, a2, b2, a3, b3, a4, b4, a5, b5, a6, b6, a7, b7, a8, b8, a9, b9, a10, b10, a11, b11, a12, b12⟩ (fun _ => ?_)
          clear hK K
          refine norm_ (a' := ?_) ?_ ?_
          rotate_left
          · show Act.put _ (some 7) _ = _; simp only [Act.put, List.setIfInBounds_toArray, List.set_cons_zero, List.set_cons_succ, i64_w, i32_w]; rfl
          refine one_ (i := 8) (N := (some 6)) (bl_ 12 1023) rfl rfl (by kernel_rfl) (by decide) (fun K hK => ?_)
          refine box_step ?hwz13 (N := 6) ?hdz13 (cs := #[.int .u8 0, .int .u64 0, .int .u8 0, .int .u64 0, .int .u64 0, .slice none 0 0, .slice none 0 0, .bool false, .int .u8 0, .int .u8 0, .slice none 0 0, .int .i64 0, .int .i64 0]) (t := 30) ?hrz13 ?_
          (case hwz13 => rfl)
          (case hdz13 => rfl)
          (case hrz13 => first | (go_simp; done) | (go_simp; rfl))
          intro g6 hg_ wq12 hbox hb
          have NE_g7_g6 := nE1_ hg_ g7_B
          have NE_g6_g7 := nE2_ hg_ g7_B
          have g6_G := gG_ hg_ HB
          have t_ := pb13_ hb a0 a1 a2 a3 a4 a5 a6 a7 a8 a9 a10 a11 a12
          clear a0 a1 a2 a3 a4 a5 a6 a7 a8 a9 a10 a11 a12
          obtain ⟨a0, a1, a2, a3, a4, a5, a6, a7, a8, a9, a10, a11, a12⟩ := t_
          have t_ := pb13_ hb b0 b1 b2 b3 b4 b5 b6 b7 b8 b9 b10 b11 b12
          clear b0 b1 b2 b3 b4 b5 b6 b7 b8 b9 b10 b11 b12
          obtain ⟨b0, b1, b2, b3, b4, b5, b6, b7, b8, b9, b10, b11, b12⟩ := t_
          replace g7_B := Aside0.mk (blk_below g7_B.out hb)
          clear g7_0 g7_f0 g7_1 g7_f1 g7_2 g7_f2 g7_3 g7_f3 g7_4 g7_f4 g7_5 g7_f5 g7_6 g7_f6 g7_7 g7_f7 g7_8 g7_f8 g7_9 g7_f9 g7_10 g7_f10 g7_11 g7_f11 g7_12 g7_f12
          obtain ⟨g7_0, g7_1, g7_2, g7_3, g7_4, g7_5, g7_6, g7_7, g7_8, g7_9, g7_10, g7_11, g7_12, g7_f0, g7_f1, g7_f2, g7_f3, g7_f4, g7_f5, g7_f6, g7_f7, g7_f8, g7_f9, g7_f10, g7_f11, g7_f12⟩ := cz13_ g7_B.out
          have g6_B := Aside0.mk hbox
          obtain ⟨g6_0, g6_1, g6_2, g6_3, g6_4, g6_5, g6_6, g6_7, g6_8, g6_9, g6_10, g6_11, g6_12, g6_f0, g6_f1, g6_f2, g6_f3, g6_f4, g6_f5, g6_f6, g6_f7, g6_f8, g6_f9, g6_f10, g6_f11, g6_f12⟩ := cz13_ hbox
          replace HB := Aside0.mk (below_step HB.out hb)
          clear hbox hb hg_
          refine hK.out _ _ ⟨a0, b0, a1, b1, a2, b2, a3, b3, a4, b4, a5, b5, a6, b6, a7, b7, a8, b8, a9, b9, a10, b10, a11, b11, a12, b12⟩ (fun _ => ?_)
          clear hK K
          refine norm_ (a' := ?_) ?_ ?_
          rotate_left
          · show Act.put _ (some 6) _ = _; simp only [Act.put, List.setIfInBounds_toArray, List.set_cons_zero, List.set_cons_succ, i64_w, i32_w]; rfl
          refine one_ (i := 10) (N := none) (bl_ 12 2047) rfl rfl (by kernel_rfl) (by decide) (fun K hK => ?_)
          refine st_allS (g := g6) 6 [.int .u8 c.f0, .int .u64 c.f1, .int .u8 c.f2.f0, .int .u64 c.f2.f1, .int .u64 c.f2.f2, .slice A5 c.f2.f3.length c5, .slice A6 c.f2.f4.length c6, .bool c.f2.f5, .int .u8 c.f2.f6, .int .u8 c.f3, .slice A10 c.f4.length c10, .int .i64 c.f5, .int .i64 c.f6] ?ttz15 ?xxz15 ?uuz15 ?htz15 (by rfl) ?eez15 g6_B.out ?_
          (case eez15 => and_intros <;> rfl)
          (case htz15 => kernel_rfl)
          intro wq14 hbox hO
          have e_ := Nat.ne_of_lt (Nat.lt_of_lt_of_le la g6_G.out)
          have t_ := on13_ hO a0 a1 a2 a3 a4 a5 a6 a7 a8 a9 a10 a11 a12 e_ e_ e_ e_ e_ e_ e_ e_ e_ e_ e_ e_ e_
          clear e_ a0 a1 a2 a3 a4 a5 a6 a7 a8 a9 a10 a11 a12
          obtain ⟨a0, a1, a2, a3, a4, a5, a6, a7, a8, a9, a10, a11, a12⟩ := t_
          have e_ := Nat.ne_of_lt (Nat.lt_of_lt_of_le lb g6_G.out)
          have t_ := on13_ hO b0 b1 b2 b3 b4 b5 b6 b7 b8 b9 b10 b11 b12 e_ e_ e_ e_ e_ e_ e_ e_ e_ e_ e_ e_ e_
          clear e_ b0 b1 b2 b3 b4 b5 b6 b7 b8 b9 b10 b11 b12
          obtain ⟨b0, b1, b2, b3, b4, b5, b6, b7, b8, b9, b10, b11, b12⟩ := t_
          replace g7_B := Aside0.mk (hO.blk NE_g7_g6.out g7_B.out)
          clear g7_0 g7_f0 g7_1 g7_f1 g7_2 g7_f2 g7_3 g7_f3 g7_4 g7_f4 g7_5 g7_f5 g7_6 g7_f6 g7_7 g7_f7 g7_8 g7_f8 g7_9 g7_f9 g7_10 g7_f10 g7_11 g7_f11 g7_12 g7_f12
          obtain ⟨g7_0, g7_1, g7_2, g7_3, g7_4, g7_5, g7_6, g7_7, g7_8, g7_9, g7_10, g7_11, g7_12, g7_f0, g7_f1, g7_f2, g7_f3, g7_f4, g7_f5, g7_f6, g7_f7, g7_f8, g7_f9, g7_f10, g7_f11, g7_f12⟩ := cz13_ g7_B.out
          clear g6_B
          clear g6_0 g6_f0 g6_1 g6_f1 g6_2 g6_f2 g6_3 g6_f3 g6_4 g6_f4 g6_5 g6_f5 g6_6 g6_f6 g6_7 g6_f7 g6_8 g6_f8 g6_9 g6_f9 g6_10 g6_f10 g6_11 g6_f11 g6_12 g6_f12
          have g6_B := Aside0.mk hbox
          obtain ⟨g6_0, g6_1, g6_2, g6_3, g6_4, g6_5, g6_6, g6_7, g6_8, g6_9, g6_10, g6_11, g6_12, g6_f0, g6_f1, g6_f2, g6_f3, g6_f4, g6_f5, g6_f6, g6_f7, g6_f8, g6_f9, g6_f10, g6_f11, g6_f12⟩ := cz13_ hbox
          replace HB := Aside0.mk (hO.below HB.out g6_G.out)
          clear hbox hO
          refine hK.out _ _ ⟨a0, b0, a1, b1, a2, b2, a3, b3, a4, b4, a5, b5, a6, b6, a7, b7, a8, b8, a9, b9, a10, b10, a11, b11, a12, b12⟩ (fun _ => ?_)
          clear hK K
          refine norm_ (a' := ?_) ?_ ?_
          rotate_left
          · rfl
          refine one_ (i := 11) (N := none) (bl_ 12 4095) rfl rfl (by kernel_rfl) (by decide) (fun K hK => ?_)
          refine st_allS (g := g7) 7 [.int .u8 c.f0, .int .u64 c.f1, .int .u8 c.f2.f0, .int .u64 c.f2.f1, .int .u64 c.f2.f2, .slice B5 c.f2.f3.length d5, .slice B6 c.f2.f4.length d6, .bool c.f2.f5, .int .u8 c.f2.f6, .int .u8 c.f3, .slice B10 c.f4.length d10, .int .i64 c.f5, .int .i64 c.f6] ?ttz17 ?xxz17 ?uuz17 ?htz17 (by rfl) ?eez17 g7_B.out ?_
          (case eez17 => and_intros <;> rfl)
          (case htz17 => kernel_rfl)
          intro wq16 hbox hO
          have e_ := Nat.ne_of_lt (Nat.lt_of_lt_of_le la g7_G.out)
          have t_ := on13_ hO a0 a1 a2 a3 a4 a5 a6 a7 a8 a9 a10 a11 a12 e_ e_ e_ e_ e_ e_ e_ e_ e_ e_ e_ e_ e_
          clear e_ a0 a1 a2 a3 a4 a5 a6 a7 a8 a9 a10 a11 a12
          obtain ⟨a0, a1, a2, a3, a4, a5, a6, a7, a8, a9, a10, a11, a12⟩ := t_
          have e_ := Nat.ne_of_lt (Nat.lt_of_lt_of_le lb g7_G.out)
          have t_ := on13_ hO b0 b1 b2 b3 b4 b5 b6 b7 b8 b9 b10 b11 b12 e_ e_ e_ e_ e_ e_ e_ e_ e_ e_ e_ e_ e_
          clear e_ b0 b1 b2 b3 b4 b5 b6 b7 b8 b9 b10 b11 b12
          obtain ⟨b0, b1, b2, b3, b4, b5, b6, b7, b8, b9, b10, b11, b12⟩ := t_
          replace g6_B := Aside0.mk (hO.blk NE_g6_g7.out g6_B.out)
          clear g6_0 g6_f0 g6_1 g6_f1 g6_2 g6_f2 g6_3 g6_f3 g6_4 g6_f4 g6_5 g6_f5 g6_6 g6_f6 g6_7 g6_f7 g6_8 g6_f8 g6_9 g6_f9 g6_10 g6_f10 g6_11 g6_f11 g6_12 g6_f12
          obtain ⟨g6_0, g6_1, g6_2, g6_3, g6_4, g6_5, g6_6, g6_7, g6_8, g6_9, g6_10, g6_11, g6_12, g6_f0, g6_f1, g6_f2, g6_f3, g6_f4, g6_f5, g6_f6, g6_f7, g6_f8, g6_f9, g6_f10, g6_f11, g6_f12⟩ := cz13_ g6_B.out
          clear g7_B
          clear g7_0 g7_f0 g7_1 g7_f1 g7_2 g7_f2 g7_3 g7_f3 g7_4 g7_f4 g7_5 g7_f5 g7_6 g7_f6 g7_7 g7_f7 g7_8 g7_f8 g7_9 g7_f9 g7_10 g7_f10 g7_11 g7_f11 g7_12 g7_f12
          have g7_B := Aside0.mk hbox
          obtain ⟨g7_0, g7_1, g7_2, g7_3, g7_4, g7_5, g7_6, g7_7, g7_8, g7_9, g7_10, g7_11, g7_12, g7_f0, g7_f1, g7_f2, g7_f3, g7_f4, g7_f5, g7_f6, g7_f7, g7_f8, g7_f9, g7_f10, g7_f11, g7_f12⟩ := cz13_ hbox
          replace HB := Aside0.mk (hO.below HB.out g7_G.out)
          clear hbox hO
          refine hK.out _ _ ⟨a0, b0, a1, b1, a2, b2, a3, b3, a4, b4, a5, b5, a6, b6, a7, b7, a8, b8, a9, b9, a10, b10, a11, b11, a12, b12⟩ (fun _ => ?_)
          clear hK K
          refine norm_ (a' := ?_) ?_ ?_
          rotate_left
          · rfl
          refine done_ (by kernel_rfl) ?_
          go_wp2
          go_meet
          case rel => exact ⟨g6, g7, rfl, rfl, g6_B, g7_B, HB⟩
      case rest =>
        clear HB a0 b0 a1 b1 a2 b2 a3 b3 a4 b4 a5 b5 a6 b6 a7 b7 a8 b8 a9 b9 a10 b10 a11 b11 a12 b12
        obtain ⟨g6, g7, rfl, rfl, g6_B, g7_B, HB⟩ := hcut
        obtain ⟨g6_0, g6_1, g6_2, g6_3, g6_4, g6_5, g6_6, g6_7, g6_8, g6_9, g6_10, g6_11, g6_12, g6_f0, g6_f1, g6_f2, g6_f3, g6_f4, g6_f5, g6_f6, g6_f7, g6_f8, g6_f9, g6_f10, g6_f11, g6_f12⟩ := cz13_ g6_B.out
        obtain ⟨g7_0, g7_1, g7_2, g7_3, g7_4, g7_5, g7_6, g7_7, g7_8, g7_9, g7_10, g7_11, g7_12, g7_f0, g7_f1, g7_f2, g7_f3, g7_f4, g7_f5, g7_f6, g7_f7, g7_f8, g7_f9, g7_f10, g7_f11, g7_f12⟩ := cz13_ g7_B.out
        go_wp2_with (first | (go_at_call 12; (with_reducible refine (same11_calls A10 c10 B10 d10 c.f4 _ ?s0_z19 ?s1_z19 ?s2_z19).mono ?_); (case s0_z19 => exact HV10.out); (case s1_z19 => with_reducible exact lC G10.out HB.out); (case s2_z19 => with_reducible exact lC K10.out HB.out); rintro e wq18 ⟨rfl, hb⟩; replace g6_B := Aside0.mk (blk_below g6_B.out hb); clear g6_0 g6_f0 g6_1 g6_f1 g6_2 g6_f2 g6_3 g6_f3 g6_4 g6_f4 g6_5 g6_f5 g6_6 g6_f6 g6_7 g6_f7 g6_8 g6_f8 g6_9 g6_f9 g6_10 g6_f10 g6_11 g6_f11 g6_12 g6_f12; obtain ⟨g6_0, g6_1, g6_2, g6_3, g6_4, g6_5, g6_6, g6_7, g6_8, g6_9, g6_10, g6_11, g6_12, g6_f0, g6_f1, g6_f2, g6_f3, g6_f4, g6_f5, g6_f6, g6_f7, g6_f8, g6_f9, g6_f10, g6_f11, g6_f12⟩ := cz13_ g6_B.out; replace g7_B := Aside0.mk (blk_below g7_B.out hb); clear g7_0 g7_f0 g7_1 g7_f1 g7_2 g7_f2 g7_3 g7_f3 g7_4 g7_f4 g7_5 g7_f5 g7_6 g7_f6 g7_7 g7_f7 g7_8 g7_f8 g7_9 g7_f9 g7_10 g7_f10 g7_11 g7_f11 g7_12 g7_f12; obtain ⟨g7_0, g7_1, g7_2, g7_3, g7_4, g7_5, g7_6, g7_7, g7_8, g7_9, g7_10, g7_11, g7_12, g7_f0, g7_f1, g7_f2, g7_f3, g7_f4, g7_f5, g7_f6, g7_f7, g7_f8, g7_f9, g7_f10, g7_f11, g7_f12⟩ := cz13_ g7_B.out; replace HB := Aside0.mk (below_step HB.out hb); clear hb) | (go_at_call 12; (with_reducible refine (same11_calls A5 c5 B5 d5 c.f2.f3 _ ?s0_z21 ?s1_z21 ?s2_z21).mono ?_); (case s0_z21 => exact HV5.out); (case s1_z21 => with_reducible exact lC G5.out HB.out); (case s2_z21 => with_reducible exact lC K5.out HB.out); rintro e wq20 ⟨rfl, hb⟩; replace g6_B := Aside0.mk (blk_below g6_B.out hb); clear g6_0 g6_f0 g6_1 g6_f1 g6_2 g6_f2 g6_3 g6_f3 g6_4 g6_f4 g6_5 g6_f5 g6_6 g6_f6 g6_7 g6_f7 g6_8 g6_f8 g6_9 g6_f9 g6_10 g6_f10 g6_11 g6_f11 g6_12 g6_f12; obtain ⟨g6_0, g6_1, g6_2, g6_3, g6_4, g6_5, g6_6, g6_7, g6_8, g6_9, g6_10, g6_11, g6_12, g6_f0, g6_f1, g6_f2, g6_f3, g6_f4, g6_f5, g6_f6, g6_f7, g6_f8, g6_f9, g6_f10, g6_f11, g6_f12⟩ := cz13_ g6_B.out; replace g7_B := Aside0.mk (blk_below g7_B.out hb); clear g7_0 g7_f0 g7_1 g7_f1 g7_2 g7_f2 g7_3 g7_f3 g7_4 g7_f4 g7_5 g7_f5 g7_6 g7_f6 g7_7 g7_f7 g7_8 g7_f8 g7_9 g7_f9 g7_10 g7_f10 g7_11 g7_f11 g7_12 g7_f12; obtain ⟨g7_0, g7_1, g7_2, g7_3, g7_4, g7_5, g7_6, g7_7, g7_8, g7_9, g7_10, g7_11, g7_12, g7_f0, g7_f1, g7_f2, g7_f3, g7_f4, g7_f5, g7_f6, g7_f7, g7_f8, g7_f9, g7_f10, g7_f11, g7_f12⟩ := cz13_ g7_B.out; replace HB := Aside0.mk (below_step HB.out hb); clear hb) | (go_at_call 12; (with_reducible refine (same11_calls A6 c6 B6 d6 c.f2.f4 _ ?s0_z23 ?s1_z23 ?s2_z23).mono ?_); (case s0_z23 => exact HV6.out); (case s1_z23 => with_reducible exact lC G6.out HB.out); (case s2_z23 => with_reducible exact lC K6.out HB.out); rintro e wq22 ⟨rfl, hb⟩; replace g6_B := Aside0.mk (blk_below g6_B.out hb); clear g6_0 g6_f0 g6_1 g6_f1 g6_2 g6_f2 g6_3 g6_f3 g6_4 g6_f4 g6_5 g6_f5 g6_6 g6_f6 g6_7 g6_f7 g6_8 g6_f8 g6_9 g6_f9 g6_10 g6_f10 g6_11 g6_f11 g6_12 g6_f12; obtain ⟨g6_0, g6_1, g6_2, g6_3, g6_4, g6_5, g6_6, g6_7, g6_8, g6_9, g6_10, g6_11, g6_12, g6_f0, g6_f1, g6_f2, g6_f3, g6_f4, g6_f5, g6_f6, g6_f7, g6_f8, g6_f9, g6_f10, g6_f11, g6_f12⟩ := cz13_ g6_B.out; replace g7_B := Aside0.mk (blk_below g7_B.out hb); clear g7_0 g7_f0 g7_1 g7_f1 g7_2 g7_f2 g7_3 g7_f3 g7_4 g7_f4 g7_5 g7_f5 g7_6 g7_f6 g7_7 g7_f7 g7_8 g7_f8 g7_9 g7_f9 g7_10 g7_f10 g7_11 g7_f11 g7_12 g7_f12; obtain ⟨g7_0, g7_1, g7_2, g7_3, g7_4, g7_5, g7_6, g7_7, g7_8, g7_9, g7_10, g7_11, g7_12, g7_f0, g7_f1, g7_f2, g7_f3, g7_f4, g7_f5, g7_f6, g7_f7, g7_f8, g7_f9, g7_f10, g7_f11, g7_f12⟩ := cz13_ g7_B.out; replace HB := Aside0.mk (below_step HB.out hb); clear hb))
        go_roundg (gk - 1)
        case measure => have := HI.out; omega
        case rel => exact ⟨x + 1, (by first | rfl | (simp; done) | (simp [*]; done)), ⟨by have := HI.out; omega⟩, HB⟩
    · have ht0 : decide (x < (l.length : Int)) = false := decide_eq_false hlt
      go_wp2
      go_ret
      exact ⟨rfl, HB.out⟩
end Go.Proofs.Ytdjdbjcapenjeaa.P
