/- Plain facts shared by the statements of chapter 1: names. No program in sight. -/
import Derived.Test.YtplhcnlpfoiieaaDoorPureText2
import Derived.Test.YtplhcnlpfoiieaaDoorPureText3
import Derived.Test.YtplhcnlpfoiieaaDoorPx60
set_option linter.unusedVariables false
set_option linter.unusedSimpArgs false
namespace Go.Proofs.YtplhcnlpfoiieaaDoor.Pure
open Go.RowKit Go.Proofs.YtplhcnlpfoiieaaDoor.P Go.Proofs.YtplhcnlpfoiieaaDoorW.PrintWords Go.Proofs.YtplhcnlpfoiieaaDoorW.PrintLast Go.Proofs.YtplhcnlpfoiieaaDoor.PL

namespace T7
theorem rd28 (s : ByteArray) (L : List Nat) (j : Nat) (h : j < L.length) : rd_T53 (L.map (text_Pieces.at_ s)) (j : Int) = ⟨(U.rn s L[j] : Int), (L[j] : Int), (U.stp s L[j] : Int), decide (U.usz s L[j] = 0)⟩ := by simp [rd_T53, h, text_Pieces.at_]
theorem appendRune (l : List Int) (x : Int) (hg : T1.good x) (hl : l.length < 100000000) : utf8_AppendRune.f l x = some (l ++ bytesOf (T1.enc x)) := by
  have hgd := hg
  unfold T1.good at hgd
  obtain ⟨r, rfl⟩ := Int.eq_ofNat_of_zero_le (show 0 ≤ x by omega)
  have hz := T3.encZ r hg
  unfold utf8_AppendRune.f bytesOf
  rw [← hz]
  by_cases c8 : r ≤ 127
  · rw [if_pos (by omega), if_pos (by omega), Lib.encodeRuneZ_one (by omega) (by omega)]
    rw [show (r : Int) % 256 = r by omega]
  · rw [if_neg (by omega)]
    unfold utf8_appendRuneNonASCII.f
    rw [if_neg (by omega), if_pos (by omega)]
    rfl
theorem bytes_str (l : List Int) (h : ∀ x ∈ l, 0 ≤ x ∧ x < 256) : bytesOf (strOfNums l) = l := by
  unfold bytesOf strOfNums
  simp only [List.map_map]
  conv => rhs; rw [← List.map_id l]
  refine List.map_congr_left fun x hx => ?_
  have := h x hx
  simp only [Function.comp_apply, id_eq, UInt8.toNat_ofNat']
  omega
/-- A letter. -/
def ltr (a0 : Int) : Bool := decide ((65 ≤ a0 ∧ a0 ≤ 90) ∨ (97 ≤ a0 ∧ a0 ≤ 122) ∨ (192 ≤ a0 ∧ a0 ≤ 214) ∨ (216 ≤ a0 ∧ a0 ≤ 246) ∨ (248 ≤ a0 ∧ a0 ≤ 255) ∨ (913 ≤ a0 ∧ a0 ≤ 929) ∨ (931 ≤ a0 ∧ a0 ≤ 937) ∨ (945 ≤ a0 ∧ a0 ≤ 969) ∨ (1040 ≤ a0 ∧ a0 ≤ 1103))
/-- What may stand further in. -/
def inn (r : Int) : Bool := decide ((48 ≤ r ∧ r ≤ 57) ∨ r = 45 ∨ r = 95 ∨ r = 46)
def ok (j : Nat) (r : Int) : Bool := decide (j < 24) && (ltr r || (decide (0 < j) && inn r))
theorem isLetter (k : Nat) (r : Int) (hk : 20 < k) : text_isLetter.f k r = some (ltr r) := by
  unfold text_isLetter.f
  simp only [text_letters.f, Option.bind_some]
  rw [T1.in_ _ _ (by decide) (by decide) (by decide) k (by simp; omega), Option.bind_some]
  congr 1
  simp only [T1.anyIn, ltr, List.any_cons, List.any_nil]
  rw [Bool.eq_iff_iff]
  simp only [Bool.or_eq_true, decide_eq_true_eq, Bool.false_eq_true, or_false]
/-- The folded rune. -/
theorem small_val (r : Int) (h0 : 0 ≤ r) : text_small.v r = if r = 962 then 963 else if (65 ≤ r ∧ r ≤ 90) ∨ (192 ≤ r ∧ r ≤ 214) ∨ (216 ≤ r ∧ r ≤ 222) ∨ (913 ≤ r ∧ r ≤ 929) ∨ (931 ≤ r ∧ r ≤ 937) ∨ (1040 ≤ r ∧ r ≤ 1071) then r + 32 else r := by
  unfold text_small.v
  split
  · rfl
  · split
    · unfold wrap32; omega
    · rfl
theorem small_good (r : Int) (h : T1.good r) : T1.good (text_small.v r) := by
  unfold T1.good at *
  rw [small_val r (by omega)]
  split
  · omega
  · split <;> omega
/-- What a name comes to, from the pieces L on, the first of which is the piece number j. -/
def spec (s : ByteArray) : List Nat → Nat → List Int → ByteArray × Int × Int
  | [], _, acc => (strOfNums acc, 0, 0)
  | i :: L, j, acc => if U.usz s i = 0 then ((⟨#[]⟩ : ByteArray), (i : Int), 13) else if ok j (U.uval s i (U.usz s i)) = false then ((⟨#[]⟩ : ByteArray), (i : Int), 17) else spec s L (j + 1) (acc ++ bytesOf (T1.enc (text_small.v (U.uval s i (U.usz s i)))))
theorem enc_len (r : Int) (hg : T1.good r) : (bytesOf (T1.enc r)).length ≤ 4 := by
  rw [bytesOf_length, ← size_list]
  exact (T2.enc_pos r hg).2
theorem tName_l (s : ByteArray) (hs : s.size ≤ 100000000) (L : List Nat) (hL : L.length ≤ s.size) (hm : ∀ i ∈ L, i < s.size) : ∀ (d k j : Nat) (acc : List Int), j + d = L.length → 3 * d + 40 < k → acc.length ≤ 4 * j → j ≤ 24 →
    text_Name.l0 k acc (L.map (text_Pieces.at_ s)) (L.length : Int) (j : Int) = some (spec s (L.drop j) j acc)
  | 0, k, j, acc, hd, hk, ha, hj => by
    obtain ⟨k, rfl⟩ : ∃ x, k = x + 1 := ⟨k - 1, by omega⟩
    simp only [text_Name.l0]
    rw [if_neg (by omega), List.drop_eq_nil_of_le (by omega), spec]
  | d + 1, k, j, acc, hd, hk, ha, hj => by
    obtain ⟨k, rfl⟩ : ∃ x, k = x + 3 := ⟨k - 3, by omega⟩
    have hjl : j < L.length := by omega
    have hi := hm L[j] (List.getElem_mem hjl)
    have ih := fun acc => tName_l s hs L hL hm d k (j + 1) acc (by omega) (by omega)
    rw [text_Name.l0, rd28 s L j hjl, List.drop_eq_getElem_cons hjl, spec]
    simp only []
    generalize L[j] = i at *
    rw [if_pos (by omega), if_pos (by omega), if_pos (by rw [List.length_map]; omega)]
    by_cases hu : U.usz s i = 0
    · rw [if_pos (decide_eq_true hu), if_pos hu]
    · rw [if_neg (by rw [decide_eq_false hu]; decide), if_neg hu]
      have er : U.rn s i = U.uval s i (U.usz s i) := by rw [U.rn, if_neg hu]
      rw [er]
      have hg := (T3.enc_at s i hi hu).1
      generalize U.uval s i (U.usz s i) = r at *
      clear er
      have key : ∀ F : Bool → Option (ByteArray × Int × Int), (if (r : Int) ≥ 48 then (if (r : Int) ≤ 57 then F true else (if (r : Int) = 45 then F true else (if (r : Int) = 95 then F true else F ((r : Int) == 46)))) else (if (r : Int) = 45 then F true else (if (r : Int) = 95 then F true else F ((r : Int) == 46)))) = F (inn r) := by
        intro F
        have e : ((r : Int) == 46) = decide ((r : Int) = 46) := by rw [Bool.eq_iff_iff]; simp
        rw [e]
        unfold inn
        repeat' split
        all_goals (congr 1; first | (rw [decide_eq_true (by omega)]) | (rw [eq_comm, decide_eq_true (by omega)]) | (rw [decide_eq_decide]; omega))
      rw [key fun b => text_Name.j1 (k + 2) acc (j : Int) b (L.map (text_Pieces.at_ s)) (L.length : Int) (j : Int) (r : Int) (i : Int) (U.stp s i : Int) (decide (U.usz s i = 0))]
      simp only [text_Name.j1]
      rw [isLetter (k + 1) _ (by omega), Option.bind_some]
      simp only [text_Name.j2]
      have good : (text_small.f (r : Int)).bind (fun t318 => ((utf8_AppendRune.f acc t318).bind fun t319 => (text_Name.l0 k t319 (L.map (text_Pieces.at_ s)) (L.length : Int) (wrap64 ((j : Int) + 1))))) = text_Name.l0 k (acc ++ bytesOf (T1.enc (text_small.v r))) (L.map (text_Pieces.at_ s)) (L.length : Int) ((j + 1 : Nat) : Int) := by
        rw [text_small.f, Option.bind_some, appendRune acc _ (small_good _ hg) (by omega), Option.bind_some, wrap64_id (by omega) (by omega)]
        rfl
      rw [good]
      by_cases h24 : j = 24
      · have e : ok j r = false := by rw [ok, decide_eq_false (by omega), Bool.false_and]
        rw [if_pos (by omega), if_pos trivial, if_pos e]
      · rw [if_neg (by omega)]
        have el := enc_len _ (small_good r hg)
        have ih := ih (acc ++ bytesOf (T1.enc (text_small.v r))) (by rw [List.length_append]; omega) (by omega)
        rw [ih]
        unfold ok
        rw [decide_eq_true (show j < 24 by omega), Bool.true_and]
        cases ltr r
        · rw [if_neg (by decide), Bool.false_or]
          by_cases h0 : j = 0
          · rw [if_pos (by omega), if_pos trivial, decide_eq_false (by omega), Bool.false_and, if_pos rfl]
          · rw [if_neg (by omega), decide_eq_true (by omega), Bool.true_and]
            cases inn r
            · rfl
            · rfl
        · rfl
/-- What a name comes to. -/
def name (s : ByteArray) : ByteArray × Int × Int := if s.size = 0 then ((⟨#[]⟩ : ByteArray), 0, 17) else spec s (U.cuts s s.size 0) 0 []
theorem toList_nil (s : ByteArray) : s.toList = ([] : List UInt8) ↔ s.size = 0 := by
  rw [toList_data, ← size_list]
  exact List.length_eq_zero_iff.symm
theorem tName (s : ByteArray) (hs : s.size ≤ 100000000) (k : Nat) (hk : 3 * s.size + 40 < k) : text_Name.f k s = some (name s) := by
  have hl := U.cuts_len s s.size 0
  unfold text_Name.f name
  by_cases h0 : s.size = 0
  · rw [if_pos ((toList_nil s).2 h0), if_pos h0]
  · rw [if_neg (fun h => h0 ((toList_nil s).1 h)), if_neg h0, T0.tpieces s (by omega), Option.bind_some]
    have := tName_l s hs (U.cuts s s.size 0) (by omega) (T0.cuts_lt s s.size 0) _ k 0 [] (by rw [Nat.zero_add]) (by omega) (by simp) (by omega)
    rw [List.length_map]
    simpa using this
end T7
end Go.Proofs.YtplhcnlpfoiieaaDoor.Pure
