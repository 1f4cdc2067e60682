/- Plain facts shared by the statements of chapter 1: the document's pieces and the program's pieces are those of the table of encodings. No program in sight. -/
import Derived.Test.YtghhpgpcbnkamaaXPl
import Derived.Test.YtghhpgpcbnkamaaXUtf
import Derived.Test.YtghhpgpcbnkamaaPx3
import Derived.Test.YtghhpgpcbnkamaaPx12
set_option linter.unusedVariables false
set_option linter.unusedSimpArgs false
namespace Go.Proofs.Ytghhpgpcbnkamaa.Pure
open Go.RowKit Go.Proofs.Ytghhpgpcbnkamaa.P Go.Proofs.YtghhpgpcbnkamaaW.PrintWords Go.Proofs.YtghhpgpcbnkamaaW.PrintLast Go.Proofs.Ytghhpgpcbnkamaa.PL

namespace T0
theorem bt_B (s : ByteArray) (n : Nat) : bt s (n : Int) = (U.B s n : Int) := by rw [bt_nat, U.B_list]; simp

theorem between (s : ByteArray) (n : Nat) (lo hi : Nat) (hn : n < 9223372036854775807) :
    shardref1_between.f s (n : Int) (lo : Int) (hi : Int) = some (U.bet s n lo hi) := by
  have hb := U.B_lt s n
  unfold shardref1_between.f U.bet
  rw [bt_B, wrap64_id (by omega) (by omega)]
  by_cases h1 : n < s.size
  · rw [if_pos (show (n : Int) < (s.size : Int) by omega), if_pos (show (0 : Int) ≤ (n : Int) by omega)]
    by_cases h2 : lo ≤ U.B s n
    · rw [if_pos (show (U.B s n : Int) ≥ (lo : Int) by omega)]
      simp [h1, h2]
    · rw [if_neg (show ¬ (U.B s n : Int) ≥ (lo : Int) by omega)]
      simp [h1, h2]
  · rw [if_neg (show ¬ (n : Int) < (s.size : Int) by omega)]
    simp [h1]

/-- So many bytes from 80 to BF from n on. -/
def tls (s : ByteArray) (n : Nat) : Nat → Bool
  | 0 => true
  | m + 1 => U.bet s n 128 191 && tls s (n + 1) m
theorem tails_l (s : ByteArray) (n m : Nat) (hn : n + m < 1000000000000000) : ∀ (d k j : Nat), j + d = m → d < k → shardref1_tails.l0 k s (n : Int) (m : Int) (j : Int) = some (tls s (n + j) d)
  | 0, k, j, hj, hk => by
    obtain ⟨k, rfl⟩ : ∃ x, k = x + 1 := ⟨k - 1, by omega⟩
    simp only [shardref1_tails.l0]
    rw [if_neg (show ¬ (j : Int) < (m : Int) by omega)]
    rfl
  | d + 1, k, j, hj, hk => by
    obtain ⟨k, rfl⟩ : ∃ x, k = x + 1 := ⟨k - 1, by omega⟩
    have ih := tails_l s n m hn d k (j + 1) (by omega) (by omega)
    simp only [shardref1_tails.l0]
    rw [if_pos (show (j : Int) < (m : Int) by omega), wrap64_id (x := (n : Int) + (j : Int)) (by omega) (by omega), wrap64_id (x := (j : Int) + 1) (by omega) (by omega)]
    have e : (n : Int) + (j : Int) = ((n + j : Nat) : Int) := by omega
    have hb := between s (n + j) 128 191 (by omega)
    rw [e]
    rw [show ((128 : Nat) : Int) = 128 from rfl, show ((191 : Nat) : Int) = 191 from rfl] at hb
    rw [hb]
    simp only [Option.bind_some, tls]
    cases U.bet s (n + j) 128 191
    · rfl
    · simp only [if_true, Bool.true_and]
      rw [show (j : Int) + 1 = ((j + 1 : Nat) : Int) by omega]
      exact ih
theorem tails (s : ByteArray) (n m k : Nat) (hn : n + m < 1000000000000000) (hk : m < k) : shardref1_tails.f k s (n : Int) (m : Int) = some (tls s n m) := by
  have := tails_l s n m hn m k 0 (by omega) hk
  simpa [shardref1_tails.f] using this
theorem row (s : ByteArray) (n lo hi lo2 hi2 m k : Nat) (hn : n < 500000000000000) (hm : 2 ≤ m) (hm2 : m ≤ 4) (hk : 3 < k) :
    shardref1_row.f k s (n : Int) (lo : Int) (hi : Int) (lo2 : Int) (hi2 : Int) (m : Int) = some (U.bet s n lo hi && U.bet s (n + 1) lo2 hi2 && tls s (n + 2) (m - 2)) := by
  unfold shardref1_row.f
  rw [wrap64_id (x := (n : Int) + 1) (by omega) (by omega), wrap64_id (x := (n : Int) + 2) (by omega) (by omega), wrap64_id (x := (m : Int) - 2) (by omega) (by omega)]
  rw [show (n : Int) + 1 = ((n + 1 : Nat) : Int) by omega, show (n : Int) + 2 = ((n + 2 : Nat) : Int) by omega, show (m : Int) - 2 = ((m - 2 : Nat) : Int) by omega]
  rw [between s n lo hi (by omega), between s (n + 1) lo2 hi2 (by omega), tails s (n + 2) (m - 2) k (by omega) (by omega)]
  simp only [Option.bind_some]
  cases U.bet s n lo hi <;> cases U.bet s (n + 1) lo2 hi2 <;> simp

theorem size (s : ByteArray) (n k : Nat) (hn : n < s.size) (hs : s.size < 500000000000000) (hk : 5 < k) : shardref1_size.f k s (n : Int) = some (U.usz s n : Int) := by
  obtain ⟨k, rfl⟩ : ∃ x, k = x + 1 := ⟨k - 1, by omega⟩
  have hb := U.B_lt s n
  have r := fun lo hi lo2 hi2 m h1 h2 => row s n lo hi lo2 hi2 m (k + 1) (by omega) h1 h2 (by omega)
  have r' := fun lo hi lo2 hi2 m h1 h2 => row s n lo hi lo2 hi2 m k (by omega) h1 h2 (by omega)
  have r2 := r 194 223 128 191 2 (by omega) (by omega)
  have a1 := r 224 224 160 191 3 (by omega) (by omega)
  have a2 := r 225 236 128 191 3 (by omega) (by omega)
  have a3 := r 237 237 128 159 3 (by omega) (by omega)
  have a4 := r 238 239 128 191 3 (by omega) (by omega)
  have b1 := r' 240 240 144 191 4 (by omega) (by omega)
  have b2 := r' 241 243 128 191 4 (by omega) (by omega)
  have b3 := r' 244 244 128 143 4 (by omega) (by omega)
  clear r r'
  simp only [Int.cast_ofNat_Int, show 2 - 2 = 0 from rfl, show 3 - 2 = 1 from rfl, show 4 - 2 = 2 from rfl, tls, Bool.and_true] at r2 a1 a2 a3 a4 b1 b2 b3
  unfold shardref1_size.f
  rw [if_pos (show (0 : Int) ≤ (n : Int) by omega), if_pos (show (n : Int) < (s.size : Int) by omega), bt_B, wrap64_id (by omega) (by omega), r2, a1, a2, a3, a4]
  simp only [shardref1_size.j0, b1, b2, b3, Option.bind_some]
  unfold U.usz
  by_cases h : U.B s n < 128
  · rw [if_pos (show (U.B s n : Int) < 128 by omega), if_pos h]; rfl
  · rw [if_neg (show ¬ (U.B s n : Int) < 128 by omega), if_neg h]
    generalize U.bet s n 194 223 = c1
    generalize U.bet s n 224 224 = c2
    generalize U.bet s n 225 236 = c3
    generalize U.bet s n 237 237 = c4
    generalize U.bet s n 238 239 = c5
    generalize U.bet s n 240 240 = c6
    generalize U.bet s n 241 243 = c7
    generalize U.bet s n 244 244 = c8
    generalize U.bet s (n + 1) 128 191 = d1
    generalize U.bet s (n + 1) 160 191 = d2
    generalize U.bet s (n + 1) 128 159 = d3
    generalize U.bet s (n + 1) 144 191 = d4
    generalize U.bet s (n + 1) 128 143 = d5
    generalize U.bet s (n + 2) 128 191 = e1
    generalize hn3 : n + 2 + 1 = m3
    have : m3 = n + 3 := by omega
    subst this
    generalize U.bet s (n + 3) 128 191 = f1
    simp only [Bool.and_or_distrib_right, Bool.and_assoc]
    generalize (c1 && d1) = g1
    generalize (c2 && (d2 && e1)) = g2
    generalize (c3 && (d1 && e1)) = g3
    generalize (c4 && (d3 && e1)) = g4
    generalize (c5 && (d1 && e1)) = g5
    generalize (c6 && (d4 && (e1 && f1))) = g6
    generalize (c7 && (d1 && (e1 && f1))) = g7
    generalize (c8 && (d5 && (e1 && f1))) = g8
    cases g1 <;> cases g2 <;> cases g3 <;> cases g4 <;> cases g5 <;> cases g6 <;> cases g7 <;> cases g8 <;> rfl

theorem value (s : ByteArray) (n : Nat) (hn : n < s.size) (hs : s.size < 500000000000000) (hu : U.usz s n ≠ 0) : shardref1_value.f s (n : Int) (U.usz s n : Int) = some (U.uval s n (U.usz s n) : Int) := by
  have b0 := U.B_lt s n
  have b1 := U.B_lt s (n + 1)
  have b2 := U.B_lt s (n + 2)
  have b3 := U.B_lt s (n + 3)
  have w : ∀ x : Int, -1000000000000000 ≤ x → x ≤ 1000000000000000 → wrap64 x = x := fun x a b => wrap64_id (by omega) (by omega)
  unfold shardref1_value.f U.uval
  rw [if_pos (show (0 : Int) ≤ (n : Int) by omega), if_pos (show (n : Int) < (s.size : Int) by omega)]
  simp only [w ((n : Int) + 1) (by omega) (by omega), w ((n : Int) + 2) (by omega) (by omega), w ((n : Int) + 3) (by omega) (by omega)]
  simp only [show (n : Int) + 1 = ((n + 1 : Nat) : Int) by omega, show (n : Int) + 2 = ((n + 2 : Nat) : Int) by omega, show (n : Int) + 3 = ((n + 3 : Nat) : Int) by omega, bt_B]
  rcases U.usz_cases s n hn with ⟨h, hc⟩ | ⟨h, hc⟩ | ⟨h, hc⟩ | ⟨h, hc⟩ | ⟨h, hc⟩
  · rw [h]
    rw [if_pos (show ((1 : Nat) : Int) = 1 from rfl), if_pos rfl, w _ (by omega) (by omega)]
  · rw [h]
    rw [if_neg (show ¬ ((2 : Nat) : Int) = 1 by decide), if_pos (show ((2 : Nat) : Int) = 2 from rfl), if_pos (show (0 : Int) ≤ ((n + 1 : Nat) : Int) by omega), if_pos (show ((n + 1 : Nat) : Int) < (s.size : Int) by omega), if_neg (show ¬ (2 : Nat) = 1 by decide), if_pos rfl]
    congr 1
    rw [w (U.B s n : Int) (by omega) (by omega), w (U.B s (n + 1) : Int) (by omega) (by omega), w ((U.B s n : Int) - 192) (by omega) (by omega), w (((U.B s n : Int) - 192) * 64) (by omega) (by omega), w (((U.B s n : Int) - 192) * 64 + (U.B s (n + 1) : Int)) (by omega) (by omega), w _ (by omega) (by omega)]
    omega
  · rw [h]
    rw [if_neg (show ¬ ((3 : Nat) : Int) = 1 by decide), if_neg (show ¬ ((3 : Nat) : Int) = 2 by decide), if_pos (show ((3 : Nat) : Int) = 3 from rfl), if_pos (show (0 : Int) ≤ ((n + 1 : Nat) : Int) by omega), if_pos (show ((n + 1 : Nat) : Int) < (s.size : Int) by omega), if_pos (show (0 : Int) ≤ ((n + 2 : Nat) : Int) by omega), if_pos (show ((n + 2 : Nat) : Int) < (s.size : Int) by omega), if_neg (show ¬ (3 : Nat) = 1 by decide), if_neg (show ¬ (3 : Nat) = 2 by decide), if_pos rfl]
    congr 1
    rw [w (U.B s n : Int) (by omega) (by omega), w (U.B s (n + 1) : Int) (by omega) (by omega), w (U.B s (n + 2) : Int) (by omega) (by omega), w ((U.B s n : Int) - 224) (by omega) (by omega), w (((U.B s n : Int) - 224) * 64) (by omega) (by omega), w (((U.B s n : Int) - 224) * 64 + (U.B s (n + 1) : Int)) (by omega) (by omega), w (((U.B s n : Int) - 224) * 64 + (U.B s (n + 1) : Int) - 128) (by omega) (by omega), w ((((U.B s n : Int) - 224) * 64 + (U.B s (n + 1) : Int) - 128) * 64) (by omega) (by omega), w ((((U.B s n : Int) - 224) * 64 + (U.B s (n + 1) : Int) - 128) * 64 + (U.B s (n + 2) : Int)) (by omega) (by omega), w _ (by omega) (by omega)]
    omega
  · rw [h]
    rw [if_neg (show ¬ ((4 : Nat) : Int) = 1 by decide), if_neg (show ¬ ((4 : Nat) : Int) = 2 by decide), if_neg (show ¬ ((4 : Nat) : Int) = 3 by decide), if_pos (show (0 : Int) ≤ ((n + 1 : Nat) : Int) by omega), if_pos (show ((n + 1 : Nat) : Int) < (s.size : Int) by omega), if_pos (show (0 : Int) ≤ ((n + 2 : Nat) : Int) by omega), if_pos (show ((n + 2 : Nat) : Int) < (s.size : Int) by omega), if_pos (show (0 : Int) ≤ ((n + 3 : Nat) : Int) by omega), if_pos (show ((n + 3 : Nat) : Int) < (s.size : Int) by omega), if_neg (show ¬ (4 : Nat) = 1 by decide), if_neg (show ¬ (4 : Nat) = 2 by decide), if_neg (show ¬ (4 : Nat) = 3 by decide)]
    congr 1
    rw [w (U.B s n : Int) (by omega) (by omega), w (U.B s (n + 1) : Int) (by omega) (by omega), w (U.B s (n + 2) : Int) (by omega) (by omega), w (U.B s (n + 3) : Int) (by omega) (by omega), w ((U.B s n : Int) - 240) (by omega) (by omega), w (((U.B s n : Int) - 240) * 64) (by omega) (by omega), w (((U.B s n : Int) - 240) * 64 + (U.B s (n + 1) : Int)) (by omega) (by omega), w (((U.B s n : Int) - 240) * 64 + (U.B s (n + 1) : Int) - 128) (by omega) (by omega), w ((((U.B s n : Int) - 240) * 64 + (U.B s (n + 1) : Int) - 128) * 64) (by omega) (by omega), w ((((U.B s n : Int) - 240) * 64 + (U.B s (n + 1) : Int) - 128) * 64 + (U.B s (n + 2) : Int)) (by omega) (by omega), w ((((U.B s n : Int) - 240) * 64 + (U.B s (n + 1) : Int) - 128) * 64 + (U.B s (n + 2) : Int) - 128) (by omega) (by omega), w (((((U.B s n : Int) - 240) * 64 + (U.B s (n + 1) : Int) - 128) * 64 + (U.B s (n + 2) : Int) - 128) * 64) (by omega) (by omega), w (((((U.B s n : Int) - 240) * 64 + (U.B s (n + 1) : Int) - 128) * 64 + (U.B s (n + 2) : Int) - 128) * 64 + (U.B s (n + 3) : Int)) (by omega) (by omega), w _ (by omega) (by omega)]
    omega
  · exact absurd h hu

/-- The document's piece that begins at i. -/
def mkR (s : ByteArray) (i : Nat) : S67 := ⟨U.rn s i, i, U.stp s i, decide (U.usz s i = 0)⟩
theorem pieces_l (s : ByteArray) (hs : s.size < 4398046511104) : ∀ (d k i : Nat) (acc : List (S67)), i ≤ s.size → s.size ≤ i + d → d + 6 < k → acc.length ≤ i → shardref1_Pieces.l0 k s acc (i : Int) = some (acc ++ (U.cuts s d i).map (mkR s))
  | 0, k, i, acc, hi, hd, hk, ha => by
    obtain ⟨k, rfl⟩ : ∃ x, k = x + 1 := ⟨k - 1, by omega⟩
    simp only [shardref1_Pieces.l0]
    rw [if_neg (show ¬ (i : Int) < (s.size : Int) by omega)]
    simp [U.cuts]
  | d + 1, k, i, acc, hi, hd, hk, ha => by
    obtain ⟨k, rfl⟩ : ∃ x, k = x + 1 := ⟨k - 1, by omega⟩
    simp only [shardref1_Pieces.l0]
    by_cases hlt : i < s.size
    · have hstp := U.stp_le s i hlt
      have hpos := U.stp_pos s i
      have hb := U.B_lt s i
      rw [if_pos (show (i : Int) < (s.size : Int) by omega), size s i k hlt (by omega) (by omega)]
      simp only [Option.bind_some]
      have ih := pieces_l s hs d k (i + U.stp s i) (acc ++ [mkR s i]) (by omega) (by omega) (by omega) (by simp; omega)
      have e : acc ++ (U.cuts s (d + 1) i).map (mkR s) = acc ++ [mkR s i] ++ (U.cuts s d (i + U.stp s i)).map (mkR s) := by
        rw [U.cuts, if_pos hlt]; simp
      rw [e, ← ih]
      by_cases hu : U.usz s i = 0
      · rw [if_pos (by omega), if_pos (show (0 : Int) ≤ (i : Int) by omega), if_pos (by omega), wrap64_id (x := (i : Int) + 1) (by omega) (by omega), bt_B, wrap64_id (x := (U.B s i : Int)) (by omega) (by omega)]
        simp [mkR, U.rn, U.stp, hu]
      · rw [if_neg (by omega), value s i hlt (by omega) hu]
        simp only [Option.bind_some]
        have h4 : U.usz s i = U.stp s i := by simp [U.stp, hu]
        rw [if_pos (by omega), wrap64_id (x := (i : Int) + (U.usz s i : Int)) (by omega) (by omega)]
        simp [mkR, U.rn, U.stp, hu]
    · rw [if_neg (show ¬ (i : Int) < (s.size : Int) by omega)]
      simp [U.cuts, hlt]
theorem pieces (s : ByteArray) (hs : s.size < 4398046511104) (k : Nat) (hk : s.size + 6 < k) : shardref1_Pieces.f k s = some ((U.cuts s s.size 0).map (mkR s)) := by
  have := pieces_l s hs s.size k 0 [] (by omega) (by omega) hk (by simp)
  simpa [shardref1_Pieces.f] using this
theorem tpieces (s : ByteArray) (hs : s.size < 4398046511104) : text_Pieces.f s = some ((U.cuts s s.size 0).map (text_Pieces.at_ s)) := by
  rw [text_Pieces.f, if_pos (by omega)]
theorem rn_lt (s : ByteArray) (i : Nat) (hi : i < s.size) : U.rn s i ≤ 1114111 := by
  have hb := U.B_lt s i
  unfold U.rn
  split
  · omega
  · rename_i h
    have := U.uval_range s i hi h
    omega
theorem cuts_lt (s : ByteArray) : ∀ (k i : Nat), ∀ j ∈ U.cuts s k i, j < s.size
  | 0, i => by simp [U.cuts]
  | k + 1, i => by
    intro j hj
    rw [U.cuts] at hj
    split at hj
    · rcases List.mem_cons.1 hj with rfl | hj
      · assumption
      · exact cuts_lt s k _ j hj
    · simp at hj
end T0
end Go.Proofs.Ytghhpgpcbnkamaa.Pure
