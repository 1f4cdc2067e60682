/- Without the document's answer: what is clipped fits and with one piece more would not; what is padded has the width that was asked for. -/
import Derived.Test.YtplhcnlpfoiieaaPureText6
import Derived.Test.YtplhcnlpfoiieaaPx74
set_option linter.unusedVariables false
set_option linter.unusedSimpArgs false
namespace Go.Proofs.Ytplhcnlpfoiieaa.Pure
open Go.RowKit Go.Proofs.Ytplhcnlpfoiieaa.P Go.Proofs.YtplhcnlpfoiieaaW.PrintWords Go.Proofs.YtplhcnlpfoiieaaW.PrintLast Go.Proofs.Ytplhcnlpfoiieaa.PL

namespace TF
open T4 (pw sumw width clipAt colw)
open T5 (sp)
theorem pad_list (a b : Nat) (c : ByteArray) : (sp a ++ c ++ sp b).data.toList = List.replicate a 32 ++ c.data.toList ++ List.replicate b 32 := by
  rw [ByteArray.data_append, ByteArray.data_append, Array.toList_append, Array.toList_append, T5.sp_list, T5.sp_list]
theorem pad_size (a b : Nat) (c : ByteArray) : (sp a ++ c ++ sp b).size = a + c.size + b := by
  rw [ByteArray.size_append, ByteArray.size_append, T5.sp_size, T5.sp_size]
theorem fin (a b : Nat) (c : ByteArray) (ha : a ≤ 400) (hb : b ≤ 400) (hc : c.size ≤ 100000000) :
    (if (a : Int) ≤ (wrap64 ((a : Int) + (c.size : Int))) then (if (wrap64 ((a : Int) + (c.size : Int))) ≤ ((sp a ++ c ++ sp b).size : Int) then (some (((sp a ++ c ++ sp b).extract ((a : Nat) : Int).toNat ((wrap64 ((a : Int) + (c.size : Int))) : Int).toNat).toList == c.toList)) else (none)) else (none)) = some true := by
  rw [pad_size, wrap64_id (by omega) (by omega), if_pos (by omega), if_pos (by omega)]
  have e : ((sp a ++ c ++ sp b).extract ((a : Nat) : Int).toNat ((a : Int) + (c.size : Int)).toNat).toList = c.toList := by
    rw [extract_list, pad_list, Int.toNat_natCast, show ((a : Int) + (c.size : Int)).toNat - a = c.size by omega, List.append_assoc, List.drop_left' (by rw [List.length_replicate]), List.take_left' (by rw [size_list]), toList_data]
  rw [e, beq_self_eq_true]
theorem loop (c : ByteArray) (hc : c.size ≤ 100000000) (cols side : Int) (w a b : Nat) (hw : (w : Int) ≤ cols) (hcols : cols ≤ 400) (h0 : 0 ≤ side) (h2 : side ≤ 2) (ha : a = T5.ahead (cols - w) side) (hb : b = (cols - w).toNat - a) :
    ∀ (d k j : Nat), j + d = a → d < k → shardlaw1_TextFits.l0 k cols side c (w : Int) (sp a ++ c ++ sp b) (j : Int) = some true := by
  have hal := T5.ahead_le (cols - w) side
  have hs1 : side = 1 → a = (cols - w).toNat := fun h => by rw [ha, T5.ahead, if_pos h]
  have hs2 : side = 2 → a = (cols - w).toNat / 2 := fun h => by rw [ha, T5.ahead, if_neg (by omega), if_pos h]
  have hs0 : side = 0 → a = 0 := fun h => by rw [ha, T5.ahead, if_neg (by omega), if_neg (by omega)]
  have hsz := pad_size a b c
  rw [← ha] at hal
  clear ha
  intro d
  induction d with
  | zero =>
    intro k j hj hk
    obtain ⟨k, rfl⟩ : ∃ x, k = x + 1 := ⟨k - 1, by omega⟩
    obtain rfl : j = a := by omega
    simp only [shardlaw1_TextFits.l0]
    rw [fin j b c (by omega) (by omega) hc, hsz, wrap64_id (x := ((j + c.size + b : Nat) : Int) - (c.size : Int)) (by omega) (by omega), wrap64_id (x := cols - (w : Int)) (by omega) (by omega), Int.tdiv_eq_ediv_of_nonneg (by omega), wrap64_id (x := (cols - (w : Int)) / 2) (by omega) (by omega)]
    by_cases g : (j : Int) < ((j + c.size + b : Nat) : Int) - (c.size : Int)
    · rw [if_pos g, if_pos (by omega), if_pos (by omega)]
      by_cases e : bt (sp j ++ c ++ sp b) (j : Int) = 32
      · rw [if_pos e, if_neg (show ¬ side = 1 by intro h; have := hs1 h; omega)]
        by_cases e2 : side = 2
        · rw [if_pos e2, if_neg (by have := hs2 e2; omega)]
        · rw [if_neg e2]
      · rw [if_neg e]
    · rw [if_neg g, if_pos (by omega)]
  | succ d ih =>
    intro k j hj hk
    obtain ⟨k, rfl⟩ : ∃ x, k = x + 1 := ⟨k - 1, by omega⟩
    have hbt : bt (sp a ++ c ++ sp b) (j : Int) = 32 := by
      rw [T0.bt_B, T6.B_app_l _ _ _ (by rw [ByteArray.size_append, T5.sp_size]; omega), T6.B_app_l _ _ _ (by rw [T5.sp_size]; omega), T6.B_sp, if_pos (by omega)]
      rfl
    simp only [shardlaw1_TextFits.l0]
    rw [hbt, hsz, wrap64_id (x := ((a + c.size + b : Nat) : Int) - (c.size : Int)) (by omega) (by omega), if_pos (show (j : Int) < ((a + c.size + b : Nat) : Int) - (c.size : Int) by omega), if_pos (show (0 : Int) ≤ (j : Int) by omega), if_pos (show (j : Int) < ((a + c.size + b : Nat) : Int) by omega), if_pos rfl, wrap64_id (x := (j : Int) + 1) (by omega) (by omega)]
    have ih := ih k (j + 1) (by omega) (by omega)
    rw [show ((j + 1 : Nat) : Int) = (j : Int) + 1 from rfl] at ih
    by_cases e1 : side = 1
    · rw [if_pos e1, ih]
    · rw [if_neg e1, if_pos (show side = 2 by
        by_cases e0 : side = 0
        · have := hs0 e0; omega
        · omega)]
      have e2 : a = (cols - w).toNat / 2 := hs2 (by
        by_cases e0 : side = 0
        · have := hs0 e0; omega
        · omega)
      rw [wrap64_id (x := cols - (w : Int)) (by omega) (by omega), Int.tdiv_eq_ediv_of_nonneg (by omega), wrap64_id (x := (cols - (w : Int)) / 2) (by omega) (by omega), if_pos (by omega), ih]
/-- The padded text. -/
theorem padded (c : ByteArray) (hc : c.size ≤ 100000000) (cols side : Int) (hw : 0 ≤ cols → (width c : Int) ≤ cols) (k : Nat) (hk : c.size + 1000 < k) : shardlaw1_TextFits.j4 k cols side c (width c : Int) = some true := by
  obtain ⟨k, rfl⟩ : ∃ x, k = x + 4 := ⟨k - 4, by omega⟩
  simp only [shardlaw1_TextFits.j4]
  rw [T5.tPad c hc cols side (k + 3) (by omega), Option.bind_some]
  by_cases bad : side < 0 ∨ side > 2 ∨ cols < 0 ∨ cols > 400
  · rw [if_pos bad]
    have j5 : shardlaw1_TextFits.j5 (k + 3) cols side c (width c : Int) (⟨#[]⟩ : ByteArray) 2 true = some true := by
      simp only [shardlaw1_TextFits.j5, if_true]
      rw [ByteArray.toList_eq]
      rfl
    simp only []
    rw [j5]
    repeat' split
    all_goals first | rfl | (rw [decide_eq_true (by omega), j5])
  · rw [if_neg bad]
    simp only []
    have hw := hw (by omega)
    rw [if_neg (by omega), if_neg (by omega), if_neg (by omega), decide_eq_false (by omega)]
    unfold T5.pad
    generalize ha : T5.ahead (cols - (width c : Int)) side = a
    generalize hb : (cols - (width c : Int)).toNat - a = b
    have hal := T5.ahead_le (cols - width c) side
    rw [ha] at hal
    have hsz := pad_size a b c
    have hwp := T6.width_pad a b c
    have e : ((width (sp a ++ c ++ sp b) : Nat) : Int) = cols := by rw [hwp]; omega
    simp only [shardlaw1_TextFits.j5, Bool.false_eq_true, if_false, if_true]
    rw [T4.tWidth (sp a ++ c ++ sp b) (by omega) (k + 2) (by omega), Option.bind_some, if_pos e, hsz, wrap64_id (x := (c.size : Int) + cols) (by omega) (by omega), wrap64_id (by omega) (by omega)]
    have e2 : (((a + c.size + b : Nat) : Int) != (c.size : Int) + cols - (width c : Int)) = false := by rw [bne_eq_false_iff_eq]; omega
    rw [e2]
    simp only [shardlaw1_TextFits.j6, Bool.false_eq_true, if_false]
    exact loop c hc cols side (width c) a b hw (by omega) (by omega) (by omega) ha.symm hb.symm a (k + 1) 0 (by omega) (by omega)
theorem rd0 (d : ByteArray) (h : 0 < d.size) : ∃ L : List (S28), text_Pieces.f d = text_Pieces.f d ∧ (U.cuts d d.size 0).map (text_Pieces.at_ d) = text_Pieces.at_ d 0 :: L := by
  obtain ⟨k, hk⟩ : ∃ k, d.size = k + 1 := ⟨d.size - 1, by omega⟩
  refine ⟨(U.cuts d k (0 + U.stp d 0)).map (text_Pieces.at_ d), rfl, ?_⟩
  rw [U.cuts_fuel d d.size (k + 1) 0 (by omega) (by omega), U.cuts, if_pos h, List.map_cons]
theorem clipped (s : ByteArray) (hs : s.size ≤ 1048576) (cols side : Int) (n : Nat) (hn : n ≤ s.size) (hw : 0 ≤ cols → (width (s.extract 0 n) : Int) ≤ cols) (hg : 0 ≤ cols → n < s.size → (width (s.extract 0 n) : Int) + (pw s n : Int) > cols) (hc2 : cols ≤ 9223372036854775807) (hc1 : -9223372036854775808 ≤ cols) (k : Nat) (hk : s.size + 1100 < k) :
    shardlaw1_TextFits.j0 k s cols side (s.extract 0 n) (width (s.extract 0 n) : Int) false = some true := by
  obtain ⟨k, rfl⟩ : ∃ x, k = x + 4 := ⟨k - 4, by omega⟩
  have hsz : (s.extract 0 n).size = n := by rw [T6.ext_size _ _ _ hn]; omega
  have hwl := T4.width_le (s.extract 0 n)
  have hpad := fun m hm => padded (s.extract 0 n) (by omega) cols side hw m hm
  rw [hsz] at hpad
  simp only [shardlaw1_TextFits.j0, shardlaw1_TextFits.j1, shardlaw1_TextFits.j2, Bool.false_eq_true, if_false, if_true]
  rw [hsz]
  generalize width (s.extract 0 n) = w at *
  have last : (if ((n : Nat) : Int) < (s.size : Int) then
      (if decide (cols ≥ 0) = true then (if 0 ≤ ((n : Nat) : Int) then (if ((n : Nat) : Int) ≤ (s.size : Int) then ((text_Pieces.f (s.extract (((n : Nat) : Int) : Int).toNat s.size)).bind fun t474 => (if (t474.length : Int) = 0 then (shardlaw1_TextFits.j3 (k + 1) s cols side (s.extract 0 n) (w : Int) t474 true) else (if 0 < (t474.length : Int) then (if ((rd_T28 t474 0).f2) < 1 then (shardlaw1_TextFits.j3 (k + 1) s cols side (s.extract 0 n) (w : Int) t474 true) else (shardlaw1_TextFits.j3 (k + 1) s cols side (s.extract 0 n) (w : Int) t474 (decide (((rd_T28 t474 0).f2) > (wrap64 ((s.size : Int) - ((n : Nat) : Int))))))) else (none)))) else (none)) else (none)) else (shardlaw1_TextFits.j4 (k + 1) cols side (s.extract 0 n) (w : Int)))
      else (shardlaw1_TextFits.j4 (k + 1) cols side (s.extract 0 n) (w : Int))) = some true := by
    by_cases hlt : n < s.size
    · rw [if_pos (by omega)]
      by_cases h0 : 0 ≤ cols
      · rw [if_pos (decide_eq_true h0), if_pos (by omega), if_pos (by omega), Int.toNat_natCast]
        have hw := hw h0
        have hg := hg h0 hlt
        have hds : (s.extract n s.size).size = s.size - n := by rw [T6.ext_size _ _ _ (Nat.le_refl _)]
        obtain ⟨L, _, hL⟩ := rd0 (s.extract n s.size) (by omega)
        rw [T0.tpieces (s.extract n s.size) (by omega), hL, Option.bind_some]
        have hdd : s.data.toList.drop n = (s.extract n s.size).data.toList := by
          rw [← toList_data (s.extract n s.size), extract_list, List.take_of_length_le (by rw [List.length_drop, size_list]; omega)]
        have sh := T2.stp_shift hdd (by omega) 0
        rw [Nat.add_zero] at sh
        have er : (rd_T28 (text_Pieces.at_ (s.extract n s.size) 0 :: L) 0).f2 = (U.stp s n : Int) := by
          rw [sh]; rfl
        have hst := U.stp_le s n hlt
        have hsp := U.stp_pos s n
        rw [er, if_neg (by rw [List.length_cons]; omega), if_pos (by rw [List.length_cons]; omega), if_neg (by omega), wrap64_id (x := (s.size : Int) - (n : Int)) (by omega) (by omega), decide_eq_false (by omega)]
        simp only [shardlaw1_TextFits.j3, Bool.false_eq_true, if_false]
        rw [er, hsz, wrap64_id (x := (n : Int) + (U.stp s n : Int)) (by omega) (by omega), if_pos (by rw [List.length_cons]; omega), if_pos (by omega), if_pos (by omega), if_pos (by omega), Int.toNat_natCast, show ((n : Int) + (U.stp s n : Int)).toNat = n + U.stp s n by omega]
        have hxs : (s.extract n (n + U.stp s n)).size ≤ 4 := by rw [T6.ext_size _ _ _ (by omega)]; omega
        rw [T4.tWidth (s.extract n (n + U.stp s n)) (by omega) k (by omega), Option.bind_some, T6.width_piece s n hlt]
        have hpw := T4.pw_le s n
        rw [wrap64_id (x := (w : Int) + (pw s n : Int)) (by omega) (by omega), if_neg (by omega)]
        exact hpad k (by omega)
      · rw [if_neg (by rw [decide_eq_false h0]; decide)]
        exact hpad (k + 1) (by omega)
    · rw [if_neg (by omega)]
      exact hpad (k + 1) (by omega)
  by_cases h0 : 0 ≤ cols
  · have hw := hw h0
    rw [if_pos h0, decide_eq_false (by omega)]
    exact last
  · rw [if_neg h0]
    exact last
end TF
theorem TextFits (s : ByteArray) (c side : Int) (hs : s.size ≤ 1048576) (hc : (Lit.int .i64 c).wf = true) (hd : (Lit.int .i64 side).wf = true) : ∃ k, shardlaw1_TextFits.f k s c side = some true := by
  have hc2 : -9223372036854775808 ≤ c ∧ c ≤ 9223372036854775807 := by
    simpa [Lit.wf, IntKind.min, IntKind.max, IntKind.signed, IntKind.bits] using hc
  refine ⟨s.size + 1200, ?_⟩
  unfold shardlaw1_TextFits.f
  rw [T5.tClip s (by omega) c hc2.2 _ (by omega)]
  have key : ∃ n, T5.clip s c = s.extract 0 n ∧ n ≤ s.size ∧ (0 ≤ c → (T4.width (s.extract 0 n) : Int) ≤ c) ∧ (0 ≤ c → n < s.size → (T4.width (s.extract 0 n) : Int) + (T4.pw s n : Int) > c) := by
    by_cases h0 : 0 ≤ c
    · obtain ⟨n, h1, h2, h3, h4⟩ := T6.clip_spec s c h0
      exact ⟨n, h1, h2, fun _ => h3, fun _ => h4⟩
    · refine ⟨0, ?_, by omega, fun h => absurd h h0, fun h => absurd h h0⟩
      rw [T5.clip, if_pos (by omega)]
      apply ByteArray.ext
      rw [← Array.toList_inj, ← toList_data (s.extract 0 0), extract_list]
      simp
  obtain ⟨n, h1, h2, h3, h4⟩ := key
  have hsz : (s.extract 0 n).size = n := by rw [T6.ext_size _ _ _ h2]; omega
  rw [h1, Option.bind_some, T4.tWidth (s.extract 0 n) (by omega) _ (by omega), Option.bind_some, hsz, if_neg (by omega), if_pos (by omega), if_pos (by omega)]
  have e : ((s.extract 0 ((n : Nat) : Int).toNat).toList != (s.extract 0 n).toList) = false := by rw [Int.toNat_natCast, bne_self_eq_false]
  rw [e]
  exact TF.clipped s hs c side n h2 h3 h4 hc2.2 hc2.1 _ (by omega)
end Go.Proofs.Ytplhcnlpfoiieaa.Pure
