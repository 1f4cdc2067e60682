-- Written by printx.py (this work's driver over the kit's print) out of the translation; Lean checks it.
import Derived.Deep.DeepMust
import Derived.Lib.OthersKept
import Derived.Laws.RangeAny
import Derived.Laws.RangeString
import Derived.WalkSmall
import Derived.Lib.Strings
import Derived.Test.YtghhpgpcbnkamaaXUtf
import Derived.Test.YtghhpgpcbnkamaaPx0
import Derived.Test.YtghhpgpcbnkamaaPx11
namespace Go.Proofs.Ytghhpgpcbnkamaa.P
open Go.RowKit Go.Proofs.YtghhpgpcbnkamaaW.PrintWords Go.Proofs.YtghhpgpcbnkamaaW.PrintLast Go.Proofs.YtghhpgpcbnkamaaW.PrintMore
attribute [local go_sem] max2_int min2_int max_two min_two max_three min_three max_four min_four   -- for this text's walks alone
set_option linter.unusedVariables false
set_option linter.unusedSimpArgs false

/-! ### text_Pieces: function 29 -/
-- GIVEN
/-- The piece that begins at i. -/
def text_Pieces.at_ (s : ByteArray) (i : Nat) : S71 := ⟨U.rn s i, i, U.stp s i, decide (U.usz s i = 0)⟩
def text_Pieces.f (a0 : ByteArray) : Option (List (S71)) := if a0.size ≤ 4398046511103 then some ((U.cuts a0 a0.size 0).map (text_Pieces.at_ a0)) else none

theorem bt_B (s : ByteArray) (n : Nat) : bt s (n : Int) = (U.B s n : Int) := by
  unfold bt
  rw [U.B_list]
  split
  · rename_i h
    rw [List.getD_eq_getElem?_getD, List.getElem?_eq_getElem (by rw [data_length]; exact h)]
    simp
    rfl
  · rename_i h
    rw [List.getD_eq_getElem?_getD, List.getElem?_eq_none (by rw [data_length]; omega)]
    rfl
theorem text_Pieces.runeLen (k : Nat) (s : ByteArray) (i : Nat) (hi : i < s.size) (hu : U.usz s i ≠ 0) : utf8_RuneLen.f (k + 2) (U.uval s i (U.usz s i)) = some (U.usz s i : Int) := by
  have := U.uval_range s i hi hu
  generalize U.uval s i (U.usz s i) = v at *
  generalize U.usz s i = u at *
  simp only [utf8_RuneLen.f, utf8_RuneLen.j0]
  rcases this with h | h | h | h
  · rw [if_neg (by omega), if_pos (by omega)]; congr 1; omega
  · rw [if_neg (by omega), if_neg (by omega), if_pos (by omega)]; congr 1; omega
  · rw [if_neg (by omega), if_neg (by omega), if_neg (by omega)]
    split
    · rw [if_neg (by simp; omega), if_pos (by omega)]; congr 1; omega
    · rw [if_neg (by simp), if_pos (by omega)]; congr 1; omega
  · rw [if_neg (by omega), if_neg (by omega), if_neg (by omega), if_pos (by omega), if_neg (by simp; omega), if_neg (by omega), if_pos (by omega)]; congr 1; omega
theorem text_Pieces.runeLenE (k : Nat) : utf8_RuneLen.f (k + 2) 65533 = some 3 := by
  simp [utf8_RuneLen.f, utf8_RuneLen.j0]
theorem text_Pieces.hasPrefix (s : ByteArray) (i : Nat) (hi : i < s.size) : strings_HasPrefix.f (s.extract i s.size) (⟨#[239, 191, 189]⟩ : ByteArray) = some (decide (U.usz s i ≠ 0 ∧ U.uval s i (U.usz s i) = 65533)) := by
  rw [decide_eq_decide.2 (U.fffd s i hi)]
  have hs : (s.extract i s.size).size = s.size - i := by simp
  have h3 : (⟨#[239, 191, 189]⟩ : ByteArray).size = 3 := rfl
  simp only [strings_HasPrefix.f, stringslite_HasPrefix.f, hs, h3]
  by_cases h : i + 2 < s.size
  · have e : ((s.extract i s.size).extract 0 ((3 : Nat) : Int).toNat).toList = [s.data.toList.getD i 0, s.data.toList.getD (i + 1) 0, s.data.toList.getD (i + 2) 0] := by
      rw [Lib.extract_toList, Lib.extract_data, ← U.drop_take3 (by rw [data_length]; omega)]
      simp only [List.drop_zero, Nat.sub_zero, Int.toNat_natCast, List.take_take]
      congr 1
      omega
    have e2 : (⟨#[239, 191, 189]⟩ : ByteArray).toList = [239, 191, 189] := by rw [ByteArray.toList_eq]
    rw [e, e2]
    simp only [if_pos (show ((s.size - i : Nat) : Int) ≥ ((3 : Nat) : Int) by omega), if_pos (show (0 : Int) ≤ ((3 : Nat) : Int) by omega), if_pos (show ((3 : Nat) : Int) ≤ ((s.size - i : Nat) : Int) by omega), Option.bind_some, U.B_list]
    congr 1
    rw [Bool.eq_iff_iff, beq_iff_eq, decide_eq_true_eq]
    simp only [List.cons.injEq, and_true]
    have u8 : ∀ (a b : UInt8), a = b ↔ a.toNat = b.toNat := fun a b => ⟨fun h => by rw [h], fun h => UInt8.toNat_inj.1 h⟩
    rw [u8, u8, u8]
    constructor
    · intro hh; exact ⟨h, hh⟩
    · intro hh; exact hh.2
  · simp only [if_neg (show ¬ ((s.size - i : Nat) : Int) ≥ ((3 : Nat) : Int) by omega), Option.bind_some]
    exact congrArg some (decide_eq_false (fun hh => h hh.1)).symm
set_option maxHeartbeats 8000000 in
set_option maxRecDepth 100000 in
theorem text_Pieces.calls (a0 : ByteArray) (r : List (S71)) (w : World) (h : text_Pieces.f a0 = some r) :
    Calls Try.prog 29 #[.string a0] w fun e w' => ∃ v0_ : Value, e = .returned (v0_) ∧ Kd.R k71 71 w' w.heap.size (fun _ => True) v0_ r ∧ Below w.heap.size w w' := by
  unfold text_Pieces.f at h
  split at h
  case isFalse => exact absurd h (by simp)
  rename_i hs
  have h1 := Option.some.inj h
  have HR := Aside0.mk h1
  clear h h1
  have hu28 := Try.underlying71
  have HB := Aside0.mk (Below.refl w.heap.size w)
  go_enter Try.func29, Try.ntmps29
  go_wp2
  go_loopw [3] (fun v wr => ∃ (pos fuel : Nat) (acc : List (S71)), Aside0 (Kd.R k71 71 wr (w.heap.size + 1) (fun k => w.heap.size + 1 ≤ k) v acc) ∧ Aside0 (wr.heap[w.heap.size]? = some (.stringIter a0 pos)) ∧ Aside0 (Below w.heap.size w wr) ∧ Aside0 (acc ++ (U.cuts a0 fuel pos).map (text_Pieces.at_ a0) = r) ∧ Aside0 (a0.size ≤ pos + fuel) ∧ Aside0 (acc.length ≤ pos)) (fun _ wr => a0.size - wr.iterPos w.heap.size)
  case atStart => exact ⟨0, a0.size, [], ⟨Kd.R_nil _ _ _ _ _⟩, ⟨World.iter_heap w a0 0⟩, ⟨below_alloc HB.out _⟩, ⟨by rw [← HR.out]; rfl⟩, ⟨by omega⟩, ⟨by simp⟩⟩
  case round =>
    obtain ⟨pos, fuel, acc, HO, HI, HBw, HE, HF, HL⟩ := hrel
    have hsz0 : w.heap.size + 1 ≤ wr.heap.size := by have := (Array.getElem?_eq_some_iff.1 HI.out).1; omega
    by_cases hp : pos < a0.size
    · obtain ⟨n, hn⟩ : ∃ n, n = U.stp a0 pos := ⟨_, rfl⟩
      have hmeas : wr.iterPos w.heap.size = pos := by simp only [World.iterPos, HI.out]
      have HM := Aside0.mk hmeas
      clear hmeas
      by_cases hu : U.usz a0 pos = 0
      · have hd : Utf8.decode a0 pos = (65533, n) := by rw [U.decode_eq a0 pos hp, if_pos hu, hn, U.stp, if_pos hu]
        have hnx := fun ty => Lib.run_next_any_at (P := Try.prog) wr w.heap.size a0 pos ty HI.out hp
        have HO1 := Aside0.mk (Kd.R_move HO.out (w1 := wr.iterAt w.heap.size a0 (pos + n)) (fun k hk => Lib.iterAt_other wr w.heap.size k a0 (pos + n) (by omega)))
        have HI1 := Aside0.mk (Lib.iterAt_heap wr w.heap.size a0 pos (pos + n) HI.out)
        have HB1 := Aside0.mk (Lib.below_iterAt HBw.out (Nat.le_refl _) a0 (pos + n))
        have hsz1 : w.heap.size + 1 ≤ (wr.iterAt w.heap.size a0 (pos + n)).heap.size := by rw [Lib.iterAt_size]; exact hsz0
        simp only [hd, Int.cast_ofNat_Int] at hnx
        generalize wr.iterAt w.heap.size a0 (pos + n) = W1 at *
        have HS1 := Aside0.mk hsz1
        have hb : strings_HasPrefix.f (a0.extract pos a0.size) (⟨#[239, 191, 189]⟩ : ByteArray) = some false := by
          rw [text_Pieces.hasPrefix a0 pos hp, decide_eq_false]; exact fun hh => hh.1 hu
        have HP := Aside0.mk hb
        have hpc : text_Pieces.at_ a0 pos = ⟨bt a0 pos, pos, 1, true⟩ := by
          simp only [text_Pieces.at_, U.rn, U.stp, if_pos hu, decide_eq_true hu]
          rw [bt_B]
          rfl
        have HC := Aside0.mk hpc
        have HN := Aside0.mk hn
        have HU := Aside0.mk hu
        have HD := Aside0.mk hd
        clear hn hu hd hsz1 HO HI HBw hb hpc
        go_wp2_with fail
        refine (utf8_RuneLen.calls 2 65533 3 _ (text_Pieces.runeLenE 0)).mono ?_
        rintro e w' ⟨rfl, hD⟩
        have HD2 := Aside0.mk hD.below
        clear hD
        go_wp2_with fail
        refine (strings_HasPrefix.calls (a0.extract pos a0.size) (⟨#[239, 191, 189]⟩ : ByteArray) false _ HP.out).mono ?_
        rintro e w2 ⟨rfl, hD⟩
        have hblk := Aside0.mk ((hD.below.block w'.heap.size (by simp)).trans (heap_alloc_new w' _))
        have HD3 := Aside0.mk (HD2.out.trans (((below_alloc (Below.refl _ _) _).trans (hD.below.mono (by simp))).mono HD2.out.size))
        have hge := Aside0.mk HD2.out.size
        clear hD HD2
        generalize w'.heap.size = g at *
        have hc0 := (blk_cell hblk.out 0).trans rfl
        have hc1 := (blk_cell hblk.out 1).trans rfl
        have hc2 := (blk_cell hblk.out 2).trans rfl
        have hc3 := (blk_cell hblk.out 3).trans rfl
        have hf0 := blk_frozen hblk.out 0
        have hf1 := blk_frozen hblk.out 1
        have hf2 := blk_frozen hblk.out 2
        have hf3 := blk_frozen hblk.out 3
        have hx : ∀ h : pos < a0.size, ((a0[pos]'h).toNat : Int) = bt a0 pos := bt_at a0 pos
        have hx0 := (bt_range a0 pos).1
        have hx1 := (bt_range a0 pos).2
        go_wp2_with (first | ((with_reducible refine gate_builtin (b := .append) (xs := #[.tmp 33, .tmp 35]) rfl ?_); at_builtin; go_must (refine Kd.R_append k71 (w0 := W1) (w.heap.size + 1) rfl (.tmp 33) (.tmp 35) 68 71 (.agg #[(.int .i32 0), (.int .i64 0), (.int .i64 0), (.bool false)]) 32 rfl Try.underlying68 info71 rfl (by decide) (by omega) u3 acc (⟨bt a0 pos, pos, 1, true⟩ : S71) [.int .i32 (bt a0 pos), .int .i64 pos, .int .i64 1, .bool true] (fun k => w.heap.size + 1 ≤ k) (fun _ => False) rfl ?aX ?aP (fun _ hk => hk.elim) ?aF ?aO ?aB ?aS ?aL ?_); (case aX => go_must (first | rfl | (go_simp; done) | (simp; done))); (case aP => exact k71_mkM _ _ _ (⟨bt a0 pos, pos, 1, true⟩ : S71)); (case aF => go_must (intro k hk; have := HS1.out; have := hge.out; have := HD3.out.size; (try simp at hk); omega)); (case aO => go_must (exact Kd.R_below HO1.out ((((HD3.out.setCell (by exact hge.out) _).setCell (by exact hge.out) _).setCell (by exact hge.out) _).setCell (by exact hge.out) _))); (case aB => go_must (exact ((((HD3.out.setCell (by exact hge.out) _).setCell (by exact hge.out) _).setCell (by exact hge.out) _).setCell (by exact hge.out) _).mono HS1.out)); (case aS => go_must (have := HS1.out; have := HD3.out.size; first | omega | (simp; omega))); (case aL => go_must (have := HL.out; omega)); intro v1 w8 ho hb8 _ _; have HO8 := Aside0.mk ho; have HB8 := Aside0.mk hb8; clear ho hb8))
        go_roundw
        case rel =>
          refine ⟨pos + n, fuel - 1, acc ++ [(⟨bt a0 pos, pos, 1, true⟩ : S71)], HO8, ⟨(HB8.out.block w.heap.size (by omega)).trans HI1.out⟩, ⟨HB1.out.trans (HB8.out.mono (Nat.le_succ _))⟩, ⟨?_⟩, ⟨?_⟩, ⟨?_⟩⟩
          · have h1 := HF.out
            obtain ⟨f, rfl⟩ : ∃ f, fuel = f + 1 := ⟨fuel - 1, by omega⟩
            rw [← HE.out, U.cuts, if_pos hp, ← HN.out, List.map_cons, HC.out, Nat.add_sub_cancel, List.append_assoc]
            rfl
          · have h1 := HF.out
            have h2 := U.stp_pos a0 pos
            rw [← HN.out] at h2
            omega
          · have h1 := HL.out
            have h2 := U.stp_pos a0 pos
            rw [← HN.out] at h2
            rw [List.length_append]
            simp
            omega
        case measure =>
          have h1 := (HB8.out.block w.heap.size (by omega)).trans HI1.out
          have h2 := U.stp_pos a0 pos
          rw [← HN.out] at h2
          rw [HM.out]
          simp only [World.iterPos, h1]
          omega
      · have hnn : n = U.usz a0 pos := by rw [hn, U.stp, if_neg hu]
        have hv3 := U.uval_range a0 pos hp hu
        have hpc : text_Pieces.at_ a0 pos = ⟨(U.uval a0 pos (U.usz a0 pos) : Int), pos, (n : Int), false⟩ := by
          simp only [text_Pieces.at_, U.rn, U.stp, if_neg hu, decide_eq_false hu, hnn]
        have hrl : utf8_RuneLen.f 2 (U.uval a0 pos (U.usz a0 pos) : Int) = some (n : Int) := by rw [hnn]; exact text_Pieces.runeLen 0 a0 pos hp hu
        have hpf := text_Pieces.hasPrefix a0 pos hp
        have hd : Utf8.decode a0 pos = (U.uval a0 pos (U.usz a0 pos), n) := by rw [U.decode_eq a0 pos hp, if_neg hu, hnn]
        generalize hvv : U.uval a0 pos (U.usz a0 pos) = v at *
        have HRL := Aside0.mk hrl
        have HC := Aside0.mk hpc
        have HN := Aside0.mk hn
        have HU := Aside0.mk hu
        have hv9 : (v : Int) ≤ 1114111 := by omega
        by_cases h65 : v = 65533
        · have hb : strings_HasPrefix.f (a0.extract pos a0.size) (⟨#[239, 191, 189]⟩ : ByteArray) = some true := by
            rw [hpf, decide_eq_true]; exact ⟨hu, h65⟩
          have HP := Aside0.mk hb
          have hv5 : ((v : Int) == 65533) = true := by rw [h65]; rfl
          have hv6 : ((v : Int) != 65533) = false := by rw [h65]; rfl
          clear hvv hnn hn hu hpc hrl hb hpf h65 hv3
          have HO1 := Aside0.mk (Kd.R_move HO.out (w1 := wr.iterAt w.heap.size a0 (pos + n)) (fun k hk => Lib.iterAt_other wr w.heap.size k a0 (pos + n) (by omega)))
          have HI1 := Aside0.mk (Lib.iterAt_heap wr w.heap.size a0 pos (pos + n) HI.out)
          have HB1 := Aside0.mk (Lib.below_iterAt HBw.out (Nat.le_refl _) a0 (pos + n))
          have hsz1 : w.heap.size + 1 ≤ (wr.iterAt w.heap.size a0 (pos + n)).heap.size := by rw [Lib.iterAt_size]; exact hsz0
          have hnx := fun ty => Lib.run_next_any_at (P := Try.prog) wr w.heap.size a0 pos ty HI.out hp
          simp only [hd, Int.cast_ofNat_Int] at hnx
          generalize wr.iterAt w.heap.size a0 (pos + n) = W1 at *
          have HS1 := Aside0.mk hsz1
          clear hd hsz1 HO HI HBw
          go_wp2_with fail
          refine (utf8_RuneLen.calls 2 v n _ HRL.out).mono ?_
          rintro e w' ⟨rfl, hD⟩
          have HD2 := Aside0.mk hD.below
          clear hD
          go_wp2_with fail
          refine (strings_HasPrefix.calls (a0.extract pos a0.size) (⟨#[239, 191, 189]⟩ : ByteArray) true _ HP.out).mono ?_
          rintro e w2 ⟨rfl, hD⟩
          have hblk := Aside0.mk ((hD.below.block w'.heap.size (by simp)).trans (heap_alloc_new w' _))
          have HD3 := Aside0.mk (HD2.out.trans (((below_alloc (Below.refl _ _) _).trans (hD.below.mono (by simp))).mono HD2.out.size))
          have hge := Aside0.mk HD2.out.size
          clear hD HD2
          generalize w'.heap.size = g at *
          have hc0 := (blk_cell hblk.out 0).trans rfl
          have hc1 := (blk_cell hblk.out 1).trans rfl
          have hc2 := (blk_cell hblk.out 2).trans rfl
          have hc3 := (blk_cell hblk.out 3).trans rfl
          go_wp2_with (first | ((with_reducible refine gate_builtin (b := .append) (xs := #[.tmp 33, .tmp 35]) rfl ?_); at_builtin; go_must (refine Kd.R_append k71 (w0 := W1) (w.heap.size + 1) rfl (.tmp 33) (.tmp 35) 68 71 (.agg #[(.int .i32 0), (.int .i64 0), (.int .i64 0), (.bool false)]) 32 rfl Try.underlying68 info71 rfl (by decide) (by omega) u3 acc (⟨v, pos, n, false⟩ : S71) [.int .i32 (v : Int), .int .i64 pos, .int .i64 (n : Int), .bool false] (fun k => w.heap.size + 1 ≤ k) (fun _ => False) rfl ?aX ?aP (fun _ hk => hk.elim) ?aF ?aO ?aB ?aS ?aL ?_); (case aX => go_must (first | rfl | (go_simp; done) | (simp; done))); (case aP => exact k71_mkM _ _ _ (⟨v, pos, n, false⟩ : S71)); (case aF => go_must (intro k hk; have := HS1.out; have := hge.out; have := HD3.out.size; (try simp at hk); omega)); (case aO => go_must (exact Kd.R_below HO1.out HD3.out)); (case aB => go_must (exact HD3.out.mono HS1.out)); (case aS => go_must (have := HS1.out; have := HD3.out.size; first | omega | (simp; omega))); (case aL => go_must (have := HL.out; omega)); intro v1 w8 ho hb8 _ _; have HO8 := Aside0.mk ho; have HB8 := Aside0.mk hb8; clear ho hb8))
          go_roundw
          case rel =>
            refine ⟨pos + n, fuel - 1, acc ++ [(⟨v, pos, n, false⟩ : S71)], HO8, ⟨(HB8.out.block w.heap.size (by omega)).trans HI1.out⟩, ⟨HB1.out.trans (HB8.out.mono (Nat.le_succ _))⟩, ⟨?_⟩, ⟨?_⟩, ⟨?_⟩⟩
            · have h1 := HF.out
              obtain ⟨f, rfl⟩ : ∃ f, fuel = f + 1 := ⟨fuel - 1, by omega⟩
              rw [← HE.out, U.cuts, if_pos hp, ← HN.out, List.map_cons, HC.out, Nat.add_sub_cancel, List.append_assoc]
              rfl
            · have h1 := HF.out
              have h2 := U.stp_pos a0 pos
              rw [← HN.out] at h2
              omega
            · have h1 := HL.out
              have h2 := U.stp_pos a0 pos
              rw [← HN.out] at h2
              rw [List.length_append]
              simp
              omega
          case measure =>
            have h1 := (HB8.out.block w.heap.size (by omega)).trans HI1.out
            have h2 := U.stp_pos a0 pos
            rw [← HN.out] at h2
            rw [HM.out]
            simp only [World.iterPos, h1]
            omega
        · have hv5 : ((v : Int) == 65533) = false := by rw [beq_eq_false_iff_ne]; omega
          have hv6 : ((v : Int) != 65533) = true := by rw [bne_iff_ne]; omega
          clear hvv hnn hn hu hpc hrl hpf h65 hv3
          have HO1 := Aside0.mk (Kd.R_move HO.out (w1 := wr.iterAt w.heap.size a0 (pos + n)) (fun k hk => Lib.iterAt_other wr w.heap.size k a0 (pos + n) (by omega)))
          have HI1 := Aside0.mk (Lib.iterAt_heap wr w.heap.size a0 pos (pos + n) HI.out)
          have HB1 := Aside0.mk (Lib.below_iterAt HBw.out (Nat.le_refl _) a0 (pos + n))
          have hsz1 : w.heap.size + 1 ≤ (wr.iterAt w.heap.size a0 (pos + n)).heap.size := by rw [Lib.iterAt_size]; exact hsz0
          have hnx := fun ty => Lib.run_next_any_at (P := Try.prog) wr w.heap.size a0 pos ty HI.out hp
          simp only [hd, Int.cast_ofNat_Int] at hnx
          generalize wr.iterAt w.heap.size a0 (pos + n) = W1 at *
          have HS1 := Aside0.mk hsz1
          clear hd hsz1 HO HI HBw
          go_wp2_with fail
          refine (utf8_RuneLen.calls 2 v n _ HRL.out).mono ?_
          rintro e w' ⟨rfl, hD⟩
          have HD3 := Aside0.mk hD.below
          clear hD
          have hge := Aside0.mk HD3.out.size
          go_wp2_with (first | ((with_reducible refine gate_builtin (b := .append) (xs := #[.tmp 33, .tmp 35]) rfl ?_); at_builtin; go_must (refine Kd.R_append k71 (w0 := W1) (w.heap.size + 1) rfl (.tmp 33) (.tmp 35) 68 71 (.agg #[(.int .i32 0), (.int .i64 0), (.int .i64 0), (.bool false)]) 32 rfl Try.underlying68 info71 rfl (by decide) (by omega) u3 acc (⟨v, pos, n, false⟩ : S71) [.int .i32 (v : Int), .int .i64 pos, .int .i64 (n : Int), .bool false] (fun k => w.heap.size + 1 ≤ k) (fun _ => False) rfl ?caX ?caP (fun _ hk => hk.elim) ?caF ?caO ?caB ?caS ?caL ?_); (case caX => go_must (first | rfl | (go_simp; done) | (simp; done))); (case caP => exact k71_mkM _ _ _ (⟨v, pos, n, false⟩ : S71)); (case caF => go_must (intro k hk; have := HS1.out; have := hge.out; have := HD3.out.size; (try simp at hk); omega)); (case caO => go_must (exact Kd.R_below HO1.out (HD3.out.alloc hge.out _))); (case caB => go_must (exact (HD3.out.alloc hge.out _).mono HS1.out)); (case caS => go_must (have := HS1.out; have := HD3.out.size; first | omega | (simp; omega))); (case caL => go_must (have := HL.out; omega)); intro v1 w8 ho hb8 _ _; have HO8 := Aside0.mk ho; have HB8 := Aside0.mk hb8; clear ho hb8))
          go_roundw
          case rel =>
            refine ⟨pos + n, fuel - 1, acc ++ [(⟨v, pos, n, false⟩ : S71)], HO8, ⟨(HB8.out.block w.heap.size (by omega)).trans HI1.out⟩, ⟨HB1.out.trans (HB8.out.mono (Nat.le_succ _))⟩, ⟨?_⟩, ⟨?_⟩, ⟨?_⟩⟩
            · have h1 := HF.out
              obtain ⟨f, rfl⟩ : ∃ f, fuel = f + 1 := ⟨fuel - 1, by omega⟩
              rw [← HE.out, U.cuts, if_pos hp, ← HN.out, List.map_cons, HC.out, Nat.add_sub_cancel, List.append_assoc]
              rfl
            · have h1 := HF.out
              have h2 := U.stp_pos a0 pos
              rw [← HN.out] at h2
              omega
            · have h1 := HL.out
              have h2 := U.stp_pos a0 pos
              rw [← HN.out] at h2
              rw [List.length_append]
              simp
              omega
          case measure =>
            have h1 := (HB8.out.block w.heap.size (by omega)).trans HI1.out
            have h2 := U.stp_pos a0 pos
            rw [← HN.out] at h2
            rw [HM.out]
            simp only [World.iterPos, h1]
            omega
    · have hnx := fun ty => Lib.run_next_end_at (P := Try.prog) wr w.heap.size a0 pos ty HI.out hp
      have hE := HE.out
      rw [U.cuts_end a0 fuel pos hp, List.map_nil, List.append_nil] at hE
      subst hE
      go_wp2
      go_ret
      exact ⟨_, rfl, Kd.R_mono (Kd.R_lower HO.out (Nat.le_succ _)) (fun _ _ => trivial), HBw.out⟩

end Go.Proofs.Ytghhpgpcbnkamaa.P
