/- Plain facts shared by the statements of chapter 1: what is printed of a string, piece by piece, by the program. No program in sight. -/
import Derived.Test.YtplhcnlpfoiieaaDoorPureText3
import Derived.Test.YtplhcnlpfoiieaaDoorPx27
set_option linter.unusedVariables false
set_option linter.unusedSimpArgs false
namespace Go.Proofs.YtplhcnlpfoiieaaDoor.Pure
open Go.RowKit Go.Proofs.YtplhcnlpfoiieaaDoor.P Go.Proofs.YtplhcnlpfoiieaaDoorW.PrintWords Go.Proofs.YtplhcnlpfoiieaaDoorW.PrintLast Go.Proofs.YtplhcnlpfoiieaaDoor.PL

namespace TQ
open T3 (hd hexs)
theorem bytes_str (l : List Int) (h : ∀ x ∈ l, 0 ≤ x ∧ x < 256) : bytesOf (strOfNums l) = l := by
  unfold bytesOf strOfNums
  simp only [List.map_map]
  conv => rhs; rw [← List.map_id l]
  refine List.map_congr_left fun x hx => ?_
  have := h x hx
  simp only [Function.comp_apply, id_eq, UInt8.toNat_ofNat']
  omega
theorem size_bytes (a : ByteArray) : a.size = (bytesOf a).length := (bytesOf_length a).symm
theorem hexs_zero (f : Nat) : hexs f 0 = [] := by cases f <;> simp [hexs]
theorem hexs_len : ∀ (f n : Nat), (hexs f n).length ≤ f
  | 0, n => by simp [hexs]
  | f + 1, n => by
    rw [hexs]
    split
    · simp
    · have := hexs_len f (n / 16)
      rw [List.length_append]; simp; omega
theorem pow16 (f n : Nat) (h : n < 16 ^ (f + 1)) : n / 16 < 16 ^ f := by
  rw [Nat.pow_succ] at h; exact Nat.div_lt_of_lt_mul (by omega)
theorem appendHex : ∀ (f k : Nat) (l : List Int) (n : Nat), n < 16 ^ f → n < 2147483648 → 0 < n → f < k → l.length + f < 140737488355328 → text_appendHex.f k l (n : Int) = some (l ++ hexs f n)
  | 0, k, l, n, hn, hb, h0, hk, hl => by simp at hn; omega
  | f + 1, k, l, n, hn, hb, h0, hk, hl => by
    obtain ⟨k, rfl⟩ : ∃ x, k = x + 1 := ⟨k - 1, by omega⟩
    have hq := pow16 f n hn
    have hm : n % 16 < 16 := Nat.mod_lt _ (by decide)
    simp only [text_appendHex.f]
    have hx : hexs (f + 1) n = hexs f (n / 16) ++ [hd (n % 16)] := by rw [hexs, if_neg (by omega)]
    rw [T3.and15u n (by omega), T3.table _ hm, hx]
    by_cases c : n ≥ 16
    · rw [if_pos (show (n : Int) ≥ 16 by omega), show (n : Int) / 16 = ((n / 16 : Nat) : Int) by omega, appendHex f k l (n / 16) hq (by omega) (by omega) (by omega) (by omega)]
      simp only [Option.bind_some]
      have := hexs_len f (n / 16)
      rw [if_pos (by omega), if_pos (by omega), if_pos (by rw [List.length_append]; omega), List.append_assoc]
    · rw [if_neg (show ¬ (n : Int) ≥ 16 by omega), if_pos (by omega), if_pos (by omega), if_pos (by omega), show n / 16 = 0 by omega, hexs_zero]
      simp
/-- The text of one piece. -/
def q (s : ByteArray) (i : Nat) : List Int :=
  if U.usz s i = 0 then [92, 120, hd (U.B s i / 16), hd (U.B s i % 16)]
  else if U.uval s i (U.usz s i) = 34 then [92, 34]
  else if U.uval s i (U.usz s i) = 92 then [92, 92]
  else if U.uval s i (U.usz s i) = 10 then [92, 110]
  else if U.uval s i (U.usz s i) = 13 then [92, 114]
  else if U.uval s i (U.usz s i) = 9 then [92, 116]
  else if T1.hid (U.uval s i (U.usz s i) : Int) = true then [92, 117, 123] ++ (if U.uval s i (U.usz s i) = 0 then [48] else hexs 8 (U.uval s i (U.usz s i))) ++ [125]
  else (T1.enc (U.uval s i (U.usz s i) : Int)).data.toList.map fun c => (c.toNat : Int)
theorem enc_len (s : ByteArray) (i : Nat) (hi : i < s.size) (hu : U.usz s i ≠ 0) : ((T1.enc (U.uval s i (U.usz s i) : Int)).data.toList.map fun c => (c.toNat : Int)).length ≤ 4 := by
  have h := (T3.enc_at s i hi hu).2
  rw [List.length_map, h, List.length_take]
  have := U.stp_le s i hi
  unfold U.stp at this
  rw [if_neg hu] at this
  omega
theorem q_len (s : ByteArray) (i : Nat) (hi : i < s.size) : (q s i).length ≤ 12 := by
  unfold q
  have := hexs_len 8 (U.uval s i (U.usz s i))
  split
  · simp
  · rename_i hu
    have := enc_len s i hi hu
    repeat' split
    all_goals (try simp only [List.length_append, List.length_cons, List.length_nil] at *)
    all_goals omega
theorem text (s : ByteArray) (i k : Nat) (l : List Int) (hi : i < s.size) (hk : 40 < k) (hl : l.length < 100000000) :
    text_quoted.f k l (U.rn s i : Int) (i : Int) (U.stp s i : Int) (decide (U.usz s i = 0)) = some (l ++ q s i) := by
  have hb := U.B_lt s i
  unfold text_quoted.f q
  by_cases hu : U.usz s i = 0
  · have e : U.rn s i = U.B s i := by simp [U.rn, hu]
    rw [if_pos (decide_eq_true hu), if_pos hu, e, T3.and15 _ (by omega), show (U.B s i : Int) / 16 = ((U.B s i / 16 : Nat) : Int) by omega]
    rw [if_pos (by omega), if_pos (by omega), if_pos (by omega), if_pos (by omega), T3.table _ (by omega), T3.table _ (by omega)]
    simp only [Option.bind_some]
    rw [if_pos (by simp; omega)]
  · have e : U.rn s i = U.uval s i (U.usz s i) := by simp [U.rn, hu]
    have hr := U.uval_range s i hi hu
    obtain ⟨hg, he⟩ := T3.enc_at s i hi hu
    have hen := enc_len s i hi hu
    have hz := T3.encZ _ hg
    rw [if_neg (show ¬ decide (U.usz s i = 0) = true by rw [decide_eq_false hu]; decide), if_neg hu, e]
    generalize U.uval s i (U.usz s i) = r at *
    have hlt : r < 2147483648 := by omega
    obtain ⟨k, rfl⟩ : ∃ x, k = x + 1 := ⟨k - 1, by omega⟩
    have j : text_quoted.j0 (k + 1) l (r : Int) (decide (r = 34 ∨ r = 92)) (r : Int) (i : Int) (U.stp s i : Int) (decide (U.usz s i = 0)) = some (l ++
      (if r = 34 then [92, 34] else if r = 92 then [92, 92] else if r = 10 then [92, 110] else if r = 13 then [92, 114] else if r = 9 then [92, 116]
      else if T1.hid (r : Int) = true then [92, 117, 123] ++ (if r = 0 then [48] else hexs 8 r) ++ [125] else (T1.enc (r : Int)).data.toList.map fun c => (c.toNat : Int))) := by
      simp only [text_quoted.j0, decide_eq_true_eq]
      by_cases c1 : r = 34
      · subst c1
        rw [if_pos (.inl rfl), if_pos rfl]
        simp only [Option.bind_some]
        rw [if_pos (by simp; omega)]; rfl
      · rw [if_neg c1]
        by_cases c2 : r = 92
        · subst c2
          rw [if_pos (.inr rfl), if_pos rfl]
          simp only [Option.bind_some]
          rw [if_pos (by simp; omega)]; rfl
        · rw [if_neg c2, if_neg (by omega)]
          by_cases c3 : r = 10
          · rw [if_pos c3, if_pos (by omega)]
            simp only [Option.bind_some]
            rw [if_pos (by simp; omega)]
          · rw [if_neg c3, if_neg (by omega)]
            by_cases c4 : r = 13
            · rw [if_pos c4, if_pos (by omega)]
              simp only [Option.bind_some]
              rw [if_pos (by simp; omega)]
            · rw [if_neg c4, if_neg (by omega)]
              by_cases c5 : r = 9
              · rw [if_pos c5, if_pos (by omega)]
                simp only [Option.bind_some]
                rw [if_pos (by simp; omega)]
              · rw [if_neg c5, if_neg (by omega), T1.isHidden k _ (by omega)]
                simp only [Option.bind_some]
                by_cases c6 : T1.hid (r : Int) = true
                · rw [if_pos c6, if_pos c6, if_pos (by simp; omega), u64_id (by omega) (by omega)]
                  have hex8 : text_appendHex.f k (l ++ ([92, 117, 123] : List Int)) (r : Int) = some (l ++ ([92, 117, 123] : List Int) ++ (if r = 0 then [48] else hexs 8 r)) := by
                    by_cases c7 : r = 0
                    · subst c7
                      obtain ⟨k, rfl⟩ : ∃ x, k = x + 1 := ⟨k - 1, by omega⟩
                      rw [if_pos rfl]
                      simp only [text_appendHex.f]
                      rw [if_neg (by decide), T3.and15u 0 (by decide), if_pos (by decide), if_pos (by decide), if_pos (by simp; omega), T3.table _ (by decide)]
                      rfl
                    · rw [if_neg c7, appendHex 8 k _ r (by omega) hlt (by omega) (by omega) (by simp; omega)]
                  rw [hex8]
                  simp only [Option.bind_some]
                  have := hexs_len 8 r
                  rw [if_pos (by split <;> simp <;> omega)]
                  simp
                · rw [if_neg c6, if_neg c6]
                  have h127 : 32 ≤ r := by
                    rcases Nat.lt_or_ge r 32 with h | h
                    · exact absurd (decide_eq_true (by omega)) c6
                    · exact h
                  unfold utf8_AppendRune.f
                  rw [← hz]
                  by_cases c8 : r ≤ 127
                  · rw [if_pos (by omega), if_pos (by omega), Lib.encodeRuneZ_one (by omega) (by omega)]
                    simp only [Option.bind_some]
                    rw [show (r : Int) % 256 = r by omega]
                  · rw [if_neg (by omega)]
                    unfold utf8_appendRuneNonASCII.f
                    rw [if_neg (by omega), if_pos (by omega)]
                    rfl
    by_cases c : r = 34
    · rw [if_pos (by omega)]
      rw [show (decide (r = 34 ∨ r = 92)) = ((r : Int) == 34) by subst c; rfl] at j
      exact j
    · rw [if_neg (by omega)]
      rw [show (decide (r = 34 ∨ r = 92)) = ((r : Int) == 92) by rw [Bool.eq_iff_iff, decide_eq_true_eq, beq_iff_eq]; omega] at j
      exact j
theorem textLoop (s : ByteArray) (hs : s.size ≤ 1048576) (L : List Nat) (hL : L.length ≤ 1048576) (hm : ∀ i ∈ L, i < s.size) : ∀ (d k j : Nat) (l : List Int), j + d = L.length → d + 42 < k → l.length ≤ 12 * j + 2 →
    text_Quote.l0 k l (L.map (text_Pieces.at_ s)) (L.length : Int) (j : Int) = some (strOfNums (l ++ (L.drop j).flatMap (q s) ++ [34]))
  | 0, k, j, l, hd, hk, hl => by
    obtain ⟨k, rfl⟩ : ∃ x, k = x + 1 := ⟨k - 1, by omega⟩
    simp only [text_Quote.l0]
    rw [if_neg (by omega), if_pos (by omega), List.drop_eq_nil_of_le (by omega)]
    simp
  | d + 1, k, j, l, hd, hk, hl => by
    obtain ⟨k, rfl⟩ : ∃ x, k = x + 1 := ⟨k - 1, by omega⟩
    have hjl : j < L.length := by omega
    have hi := hm L[j] (List.getElem_mem hjl)
    simp only [text_Quote.l0]
    have er : rd_T53 (L.map (text_Pieces.at_ s)) (j : Int) = ⟨(U.rn s L[j] : Int), (L[j] : Int), (U.stp s L[j] : Int), decide (U.usz s L[j] = 0)⟩ := by simp [rd_T53, hjl, text_Pieces.at_]
    rw [if_pos (by omega), if_pos (by omega), if_pos (by rw [List.length_map]; omega), er]
    simp only []
    rw [text s L[j] k l hi (by omega) (by omega)]
    simp only [Option.bind_some]
    have hq := q_len s L[j] hi
    have ih := textLoop s hs L hL hm d k (j + 1) (l ++ q s L[j]) (by omega) (by omega) (by rw [List.length_append]; omega)
    rw [wrap64_id (by omega) (by omega), show (j : Int) + 1 = ((j + 1 : Nat) : Int) by omega, ih, List.drop_eq_getElem_cons hjl, List.flatMap_cons]
    simp only [List.append_assoc]
/-- What is printed. -/
def quote (s : ByteArray) : ByteArray := strOfNums ([34] ++ (U.cuts s s.size 0).flatMap (q s) ++ [34])
theorem tQuote (s : ByteArray) (hs : s.size ≤ 1048576) (k : Nat) (hk : s.size + 50 < k) : text_Quote.f k s = some (quote s) := by
  have hl := U.cuts_len s s.size 0
  have hm := T0.cuts_lt s s.size 0
  unfold text_Quote.f quote
  rw [wrap64_id (by omega) (by omega), if_pos (by omega), if_pos (by omega)]
  simp only [Option.bind_some]
  rw [if_pos (by simp), T0.tpieces s (by omega)]
  simp only [Option.bind_some]
  have := textLoop s hs _ (by omega) hm (U.cuts s s.size 0).length k 0 ([] ++ [34]) (by omega) (by omega) (by simp)
  rw [List.length_map]
  simpa using this
theorem quote_size (s : ByteArray) : (quote s).size ≤ 12 * s.size + 2 := by
  have hl := U.cuts_len s s.size 0
  have hm := T0.cuts_lt s s.size 0
  have key : ∀ L : List Nat, (∀ i ∈ L, i < s.size) → (L.flatMap (q s)).length ≤ 12 * L.length := by
    intro L
    induction L with
    | nil => simp
    | cons i L ih =>
      intro h
      have h1 := q_len s i (h i List.mem_cons_self)
      have h2 := ih (fun j hj => h j (List.mem_cons_of_mem _ hj))
      rw [List.flatMap_cons, List.length_append, List.length_cons]
      omega
  have := key _ hm
  have e : (quote s).size = ([34] ++ (U.cuts s s.size 0).flatMap (q s) ++ [34] : List Int).length := by
    rw [← size_list]
    unfold quote strOfNums
    simp
  rw [e, List.length_append, List.length_append]
  simp only [List.length_cons, List.length_nil]
  omega
end TQ
end Go.Proofs.YtplhcnlpfoiieaaDoor.Pure
