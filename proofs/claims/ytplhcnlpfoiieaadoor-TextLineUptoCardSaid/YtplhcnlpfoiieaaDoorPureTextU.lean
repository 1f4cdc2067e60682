/- Plain facts shared by the statements of chapter 1: what the program reads of a quoted text, escape by escape. No program in sight. -/
import Derived.Test.YtplhcnlpfoiieaaDoorPureText3
import Derived.Test.YtplhcnlpfoiieaaDoorPureText2
import Derived.Test.YtplhcnlpfoiieaaDoorPx17
set_option linter.unusedVariables false
set_option linter.unusedSimpArgs false
namespace Go.Proofs.YtplhcnlpfoiieaaDoor.Pure
open Go.RowKit Go.Proofs.YtplhcnlpfoiieaaDoor.P Go.Proofs.YtplhcnlpfoiieaaDoorW.PrintWords Go.Proofs.YtplhcnlpfoiieaaDoorW.PrintLast Go.Proofs.YtplhcnlpfoiieaaDoor.PL

namespace TU
open T3 (hd hexs)
open T1 (good enc hid)
def by8 (l : List Int) : List UInt8 := l.map fun x => UInt8.ofNat x.toNat
theorem by8_app (a b : List Int) : by8 (a ++ b) = by8 a ++ by8 b := by simp [by8]
theorem by8_cons (a : Int) (b : List Int) : by8 (a :: b) = UInt8.ofNat a.toNat :: by8 b := by simp [by8]
theorem by8_len (a : List Int) : (by8 a).length = a.length := by simp [by8]
theorem str_by8 (l : List Int) : (strOfNums l).data.toList = by8 l := by simp [strOfNums, by8]
theorem by8_map (l : List UInt8) : by8 (l.map fun c => (c.toNat : Int)) = l := by
  unfold by8
  rw [List.map_map]
  conv => rhs; rw [← List.map_id l]
  refine List.map_congr_left fun c _ => ?_
  simp only [Function.comp_apply, Int.toNat_natCast, UInt8.ofNat_toNat, id_eq]
theorem by8_bytes (b : ByteArray) : by8 (bytesOf b) = b.data.toList := by unfold bytesOf; exact by8_map _
theorem ext_list {a b : ByteArray} (h : a.data.toList = b.data.toList) : a = b := ByteArray.ext (Array.ext' h)
theorem str_bytes (b : ByteArray) : strOfNums (bytesOf b) = b := ext_list (by rw [str_by8, by8_bytes])
theorem n8 (x : Int) (h0 : 0 ≤ x) (h1 : x < 256) : ((UInt8.ofNat x.toNat).toNat : Int) = x := by rw [UInt8.toNat_ofNat']; omega
theorem btL (E : ByteArray) (j : Nat) : bt E (j : Int) = ((E.data.toList.getD j 0).toNat : Int) := by rw [bt_nat]; simp
/-- The value of a hexadecimal digit, -1: it is none. -/
def hexv (c : Int) : Int := if 48 ≤ c ∧ c ≤ 57 then c - 48 else if 97 ≤ c ∧ c ≤ 102 then c - 87 else if 65 ≤ c ∧ c ≤ 70 then c - 55 else -1
theorem hexv_range (c : Int) : -1 ≤ hexv c ∧ hexv c < 16 := by unfold hexv; repeat' split; all_goals omega
theorem hexValue (k : Nat) (c : Int) (hk : 3 < k) : text_hexValue.f k c = some (hexv c) := by
  obtain ⟨k, rfl⟩ : ∃ x, k = x + 2 := ⟨k - 2, by omega⟩
  have j1 : ∀ b : Bool, text_hexValue.j1 (k + 1) c b = some (if b = true then ((c - 97) % 256) + 10 else if 65 ≤ c ∧ c ≤ 70 then ((c - 65) % 256) + 10 else -1) := by
    intro b
    simp only [text_hexValue.j1]
    cases b
    · simp only [Bool.false_eq_true, if_false]
      by_cases c1 : 65 ≤ c
      · rw [if_pos (by omega)]
        by_cases c2 : c ≤ 70
        · rw [if_pos c2, if_pos ⟨c1, c2⟩]
        · rw [if_neg c2, if_neg (by omega)]
      · rw [if_neg (by omega), if_neg (by omega)]
    · rfl
  have j0 : ∀ b : Bool, text_hexValue.j0 (k + 2) c b = some (if b = true then ((c - 48) % 256) else if 97 ≤ c ∧ c ≤ 102 then ((c - 97) % 256) + 10 else if 65 ≤ c ∧ c ≤ 70 then ((c - 65) % 256) + 10 else -1) := by
    intro b
    simp only [text_hexValue.j0]
    cases b
    · simp only [Bool.false_eq_true, if_false]
      by_cases c1 : 97 ≤ c
      · rw [if_pos (by omega), j1]
        by_cases c2 : c ≤ 102
        · rw [decide_eq_true c2, if_pos rfl, if_pos ⟨c1, c2⟩]
        · rw [decide_eq_false c2, if_neg (by decide), if_neg (c := 97 ≤ c ∧ c ≤ 102) (by omega)]
      · rw [if_neg (by omega), j1, if_neg (by decide), if_neg (c := 97 ≤ c ∧ c ≤ 102) (by omega)]
    · rfl
  unfold text_hexValue.f hexv
  by_cases c1 : 48 ≤ c
  · rw [if_pos (by omega), j0]
    congr 1
    by_cases c2 : c ≤ 57
    · rw [decide_eq_true c2, if_pos rfl, if_pos ⟨c1, c2⟩]; omega
    · rw [decide_eq_false c2, if_neg (by decide), if_neg (c := 48 ≤ c ∧ c ≤ 57) (by omega)]
      repeat' split
      all_goals omega
  · rw [if_neg (by omega), j0, if_neg (by decide), if_neg (c := 48 ≤ c ∧ c ≤ 57) (by omega)]
    congr 1
    repeat' split
    all_goals omega
theorem hexv_hd (d : Nat) (h : d < 16) : hexv (hd d) = d := by unfold hexv hd; repeat' split; all_goals omega
theorem wrap32_id {x : Int} (h0 : -2147483648 ≤ x) (h1 : x < 2147483648) : wrap32 x = x := by unfold wrap32; omega
theorem cutE (E : ByteArray) (h : 0 < E.size) : text_cut.f E = some (if U.usz E 0 = 0 then ((U.B E 0 : Int), 1, true) else ((U.uval E 0 (U.usz E 0) : Int), (U.usz E 0 : Int), false)) := by
  have hb := U.B_lt E 0
  unfold text_cut.f utf8_DecodeRuneInString.f
  rw [if_neg (by omega), Option.bind_some]
  by_cases hu : U.usz E 0 = 0
  · rw [if_pos hu, if_pos hu, if_pos rfl, if_pos (by decide), if_pos (by omega), show bt E 0 = (U.B E 0 : Int) from T0.bt_B E 0, wrap32_id (by omega) (by omega)]
  · have hr := U.uval_range E 0 h hu
    rw [if_neg hu, if_neg hu]
    by_cases c : U.uval E 0 (U.usz E 0) = 65533
    · rw [if_pos (show ((U.uval E 0 (U.usz E 0) : Nat) : Int) = 65533 by omega), if_neg (show ¬ ((U.usz E 0 : Nat) : Int) < 2 by omega)]
    · rw [if_neg (show ¬ ((U.uval E 0 (U.usz E 0) : Nat) : Int) = 65533 by omega)]

theorem suf (Q : ByteArray) (p : Nat) : (Q.extract p Q.size).data.toList = Q.data.toList.drop p := by
  rw [← toList_data, extract_list, List.take_of_length_le (by rw [List.length_drop, size_list]; omega)]
theorem suf_size (Q : ByteArray) (p : Nat) : (Q.extract p Q.size).size = Q.size - p := by rw [← size_list, suf, List.length_drop, size_list]
theorem or16 (x t : Nat) (hx : x * 16 + 15 < 2147483648) (ht : t < 16) : Go.bits .or .i32 ((x * 16 : Nat) : Int) (t : Int) = ((x * 16 + t : Nat) : Int) := by
  rw [(bits_nat .i32 31 (by decide) (fun m h0 h1 => wraps_i32 m h0 h1) (x * 16) t (by omega) (by omega)).2]
  congr 1
  have := Nat.two_pow_add_eq_or_of_lt (i := 4) (b := t) (by omega) x
  rw [show x * 16 = 2 ^ 4 * x by omega, ← this]
theorem or16b (x t : Nat) (hx : x < 16) (ht : t < 16) : Go.bits .or .i64 ((x * 16 : Nat) : Int) (t : Int) = ((x * 16 + t : Nat) : Int) := by
  rw [(bits_nat .i64 31 (by decide) (fun m h0 h1 => by rw [IntKind.wrap_i64]; omega) (x * 16) t (by omega) (by omega)).2]
  congr 1
  have := Nat.two_pow_add_eq_or_of_lt (i := 4) (b := t) (by omega) x
  rw [show x * 16 = 2 ^ 4 * x by omega, ← this]
theorem pow16 (f n : Nat) (h : n < 16 ^ (f + 1)) : n / 16 < 16 ^ f := by
  rw [Nat.pow_succ] at h; exact Nat.div_lt_of_lt_mul (by omega)
/-- The number of digits, on top of another. -/
def num16 : Nat → List Int → Nat
  | n, [] => n
  | n, c :: l => num16 (n * 16 + (hexv c).toNat) l
theorem num16_app : ∀ (a b : List Int) (n : Nat), num16 n (a ++ b) = num16 (num16 n a) b
  | [], b, n => rfl
  | c :: a, b, n => by rw [List.cons_append, num16, num16_app a, num16]
theorem num16_hexs : ∀ (f n : Nat), n < 16 ^ f → num16 0 (hexs f n) = n
  | 0, n, h => by simp at h; subst h; rfl
  | f + 1, n, h => by
    rw [hexs]
    by_cases c : n = 0
    · rw [if_pos c, c]; rfl
    · rw [if_neg c, num16_app, num16_hexs f (n / 16) (pow16 f n h), num16, num16, hexv_hd _ (Nat.mod_lt _ (by decide))]
      omega
theorem num16_ge : ∀ (l : List Int) (n : Nat), n ≤ num16 n l
  | [], n => Nat.le_refl _
  | c :: l, n => by
    rw [num16]
    have := num16_ge l (n * 16 + (hexv c).toNat)
    omega
def digit (x : Int) : Prop := 0 ≤ x ∧ x < 256 ∧ 0 ≤ hexv x
theorem long_l (E : ByteArray) (rest : List UInt8) (hz : E.size < 1000000000) : ∀ (ds : List Int) (k n i : Nat), E.data.toList.drop i = by8 ds ++ 125 :: rest → (∀ x ∈ ds, digit x) → 3 ≤ i → 3 < i + ds.length → i + ds.length ≤ 9 → num16 n ds ≤ 1114111 → good (num16 n ds) → ds.length + 10 < k →
    text_longEscape.l0 k E (n : Int) (i : Int) = some (enc (num16 n ds), ((i + ds.length + 1 : Nat) : Int))
  | [], k, n, i, hd, hdig, h3, hl, h9, hn, hg, hk => by
    obtain ⟨k, rfl⟩ : ∃ x, k = x + 3 := ⟨k - 3, by omega⟩
    have hsz : i + 1 ≤ E.size := by
      have := congrArg List.length hd
      rw [List.length_drop, size_list, List.length_append, List.length_cons] at this
      omega
    have hb : bt E (i : Int) = 125 := by
      have h := T2.B_drop E i 0
      rw [hd] at h
      rw [T0.bt_B, show U.B E i = U.B E (i + 0) from rfl, h]
      rfl
    have hj2 : text_longEscape.j2 (k + 2) E (n : Int) (i : Int) = some (enc n, ((i + 1 : Nat) : Int)) := by
      simp only [text_longEscape.j2]
      rw [List.length_nil] at hl
      rw [if_neg (by omega), if_neg (by omega), if_pos (by omega), if_pos (by omega), hb]
      simp only [text_longEscape.j3]
      rw [if_neg (by decide), T1.tEncode _ _ (by omega), if_pos (c := good (n : Int)) hg, Option.bind_some, if_pos rfl, wrap64_id (by omega) (by omega), show ((i + 1 : Nat) : Int) = (i : Int) + 1 by omega]
    simp only [text_longEscape.l0]
    rw [if_pos (by omega)]
    by_cases c : i < 9
    · rw [if_pos (by omega), if_pos (by omega), hb, hexValue _ _ (by omega), Option.bind_some, if_neg (by decide)]
      exact hj2
    · rw [if_neg (by omega)]
      exact hj2
  | d :: ds, k, n, i, hd, hdig, h3, hl, h9, hn, hg, hk => by
    obtain ⟨k, rfl⟩ : ∃ x, k = x + 1 := ⟨k - 1, by omega⟩
    obtain ⟨d0, d1, d2⟩ := hdig d List.mem_cons_self
    have hr := hexv_range d
    rw [List.length_cons] at hl h9 hk ⊢
    rw [by8_cons, List.cons_append] at hd
    have hsz : i + 2 ≤ E.size := by
      have := congrArg List.length hd
      rw [List.length_drop, size_list, List.length_cons, List.length_append, List.length_cons] at this
      omega
    have hb : bt E (i : Int) = d := by
      have h := T2.B_drop E i 0
      rw [hd] at h
      rw [T0.bt_B, show U.B E i = U.B E (i + 0) from rfl, h]
      exact n8 d d0 d1
    have hge := num16_ge ds (n * 16 + (hexv d).toNat)
    rw [num16] at hn hg ⊢
    have hnn : n * 16 + (hexv d).toNat ≤ 1114111 := by omega
    simp only [text_longEscape.l0]
    rw [if_pos (by omega), if_pos (by omega), if_pos (by omega), hb, hexValue _ _ (by omega), Option.bind_some, if_pos (by omega), Option.bind_some, wrap32_id (by omega) (by omega), wrap32_id (by omega) (by omega), wrap64_id (by omega) (by omega),
      show (n : Int) * 16 = ((n * 16 : Nat) : Int) by omega, show hexv d = (((hexv d).toNat : Nat) : Int) by omega, or16 _ _ (by omega) (by omega)]
    have ih := long_l E rest hz ds k (n * 16 + (hexv d).toNat) (i + 1) (by
      rw [← List.drop_drop, hd]; rfl) (fun x hx => hdig x (List.mem_cons_of_mem _ hx)) (by omega) (by omega) (by omega) hn hg (by omega)
    rw [show i + (ds.length + 1) + 1 = i + 1 + ds.length + 1 by omega, show (i : Int) + 1 = ((i + 1 : Nat) : Int) by omega]
    exact ih
section
variable (E : ByteArray) (rest : List UInt8) (hz : E.size < 1000000000) (k : Nat) (hk : 60 < k)
include hz hk
theorem esc2 (c : UInt8) (h : E.data.toList = 92 :: c :: rest) (hc : c = 34 ∨ c = 92) : text_escape.f k E = some (⟨#[c]⟩, 2) := by
  obtain ⟨k, rfl⟩ : ∃ x, k = x + 1 := ⟨k - 1, by omega⟩
  have hs : E.size = rest.length + 2 := by rw [← size_list, h]; rfl
  have b1 : bt E 1 = (c.toNat : Int) := by have := btL E 1; rw [h] at this; simpa using this
  have ex : E.extract 1 2 = ⟨#[c]⟩ := ext_list (by rw [← toList_data, extract_list, h]; rfl)
  unfold text_escape.f
  rw [if_neg (by omega), if_pos (by omega), b1]
  rcases hc with rfl | rfl
  · rw [if_pos (by decide)]
    simp only [text_escape.j0]
    rw [if_pos (by decide), if_pos (by decide), if_pos (by omega), ex]
  · rw [if_neg (by decide)]
    simp only [text_escape.j0]
    rw [if_pos (by decide), if_pos (by decide), if_pos (by omega), ex]
theorem escN (c : UInt8) (x : UInt8) (h : E.data.toList = 92 :: c :: rest) (hc : (c = 110 ∧ x = 10) ∨ (c = 114 ∧ x = 13) ∨ (c = 116 ∧ x = 9)) : text_escape.f k E = some (⟨#[x]⟩, 2) := by
  obtain ⟨k, rfl⟩ : ∃ x, k = x + 1 := ⟨k - 1, by omega⟩
  have hs : E.size = rest.length + 2 := by rw [← size_list, h]; rfl
  have b1 : bt E 1 = (c.toNat : Int) := by have := btL E 1; rw [h] at this; simpa using this
  unfold text_escape.f
  rw [if_neg (by omega), if_pos (by omega), b1]
  rcases hc with ⟨rfl, rfl⟩ | ⟨rfl, rfl⟩ | ⟨rfl, rfl⟩
  all_goals
    rw [if_neg (by decide)]
    simp only [text_escape.j0]
    rfl
theorem escX (a b : Nat) (ha : a < 16) (hb : b < 16) (h : E.data.toList = by8 [92, 120, hd a, hd b] ++ rest) : text_escape.f k E = some (strOfNums [((a * 16 + b : Nat) : Int)], 4) := by
  obtain ⟨k, rfl⟩ : ∃ x, k = x + 2 := ⟨k - 2, by omega⟩
  have h1 := T3.hd_range a ha
  have h2 := T3.hd_range b hb
  simp only [by8, List.map_cons, List.map_nil, List.cons_append, List.nil_append] at h
  have hs : E.size = rest.length + 4 := by rw [← size_list, h]; rfl
  have b1 : bt E 1 = 120 := by have := btL E 1; rw [h] at this; simpa using this
  have b2 : bt E 2 = hd a := by have := btL E 2; rw [h] at this; rw [← n8 (hd a) (by omega) (by omega)]; exact this
  have b3 : bt E 3 = hd b := by have := btL E 3; rw [h] at this; rw [← n8 (hd b) (by omega) (by omega)]; exact this
  unfold text_escape.f
  rw [if_neg (by omega), if_pos (by omega), b1, if_neg (by decide)]
  simp only [text_escape.j0]
  rw [if_neg (by decide), if_neg (by decide), if_neg (by decide), if_neg (by decide), if_pos trivial, if_pos (by omega), if_pos (by omega), b2, hexValue _ _ (by omega), Option.bind_some, hexv_hd a ha, if_pos (by omega), if_pos (by omega), b3, hexValue _ _ (by omega), Option.bind_some, hexv_hd b hb, decide_eq_true (by omega)]
  simp only [text_escape.j1]
  rw [if_pos trivial, if_pos (by omega), b2, hexValue _ _ (by omega), Option.bind_some, hexv_hd a ha, if_pos (by omega), b3, hexValue _ _ (by omega), Option.bind_some, hexv_hd b hb, wrap64_id (by omega) (by omega), show (a : Int) * 16 = ((a * 16 : Nat) : Int) by omega, or16b a b ha hb, show (((a * 16 + b : Nat) : Int)) % 256 = ((a * 16 + b : Nat) : Int) by omega]
theorem escU (ds : List Int) (hd1 : ∀ x ∈ ds, digit x) (hl : 0 < ds.length ∧ ds.length ≤ 6) (hn : num16 0 ds ≤ 1114111) (hg : good (num16 0 ds)) (h : E.data.toList = by8 ([92, 117, 123] ++ ds ++ [125]) ++ rest) : text_escape.f k E = some (enc (num16 0 ds), ((ds.length + 4 : Nat) : Int)) := by
  obtain ⟨k, rfl⟩ : ∃ x, k = x + 2 := ⟨k - 2, by omega⟩
  rw [by8_app, by8_app] at h
  have h' : E.data.toList = 92 :: 117 :: 123 :: (by8 ds ++ 125 :: rest) := by rw [h]; simp [by8]
  have hs : E.size = ds.length + rest.length + 4 := by rw [← size_list, h']; simp [by8_len]; omega
  have b1 : bt E 1 = 117 := by have := btL E 1; rw [h'] at this; simpa using this
  have b2 : bt E 2 = 123 := by have := btL E 2; rw [h'] at this; simpa using this
  unfold text_escape.f
  rw [if_neg (by omega), if_pos (by omega), b1, if_neg (by decide)]
  simp only [text_escape.j0]
  rw [if_neg (by decide), if_neg (by decide), if_neg (by decide), if_neg (by decide), if_neg (by decide), if_pos trivial]
  unfold text_longEscape.f
  rw [if_neg (by omega), if_pos (by omega), b2]
  simp only [text_longEscape.j0]
  rw [if_neg (by decide)]
  have := long_l E rest hz ds k 0 3 (by rw [h']; rfl) hd1 (by omega) (by omega) (by omega) hn hg (by omega)
  rw [show (0 : Int) = ((0 : Nat) : Int) from rfl, show (3 : Int) = ((3 : Nat) : Int) from rfl, this, Option.bind_some, show 3 + ds.length + 1 = ds.length + 4 by omega]
end
theorem escStep (Q : ByteArray) (p k n : Nat) (out : List Int) (b : ByteArray) (rest : List UInt8) (h : Q.data.toList.drop p = 92 :: rest) (hQ : Q.size < 100000000) (he : text_escape.f k (Q.extract p Q.size) = some (b, (n : Int))) (hn : 0 < n) (hn2 : n < 100) (hb : b.size ≤ 100) (ho : out.length < 1000000000) :
    text_unquoted.l0 (k + 1) Q (p : Int) out = text_unquoted.l0 k Q ((p + n : Nat) : Int) (out ++ bytesOf b) := by
  have hE := suf Q p
  have hp : p < Q.size := by
    have := congrArg List.length h
    rw [List.length_drop, size_list, List.length_cons] at this
    omega
  have hes := suf_size Q p
  obtain ⟨r1, r2, r3⟩ := T2.rune_at (Q.extract p Q.size) 0 92 (by unfold good; omega) rest (by rw [List.drop_zero, hE, h]; rfl)
  have hlen : (enc 92).data.toList.length = 1 := rfl
  simp only [text_unquoted.l0]
  rw [if_pos (by omega), if_pos (by omega), if_pos (by omega), show ((p : Int)).toNat = p from rfl, cutE _ r1, if_neg (by omega), Option.bind_some, if_neg Bool.false_ne_true]
  simp only [r3]
  rw [if_neg (by decide), if_pos trivial, he, Option.bind_some]
  simp only []
  rw [if_neg (by omega), if_pos (by omega), wrap64_id (by omega) (by omega)]
  rfl
theorem runeStep (Q : ByteArray) (p k : Nat) (r : Int) (out : List Int) (rest : List UInt8) (hg : good r) (h34 : r ≠ 34) (h92 : r ≠ 92) (hh : hid r = false) (h : Q.data.toList.drop p = (enc r).data.toList ++ rest) (hQ : Q.size < 100000000) (hk : 60 < k) (ho : out.length < 1000000000) :
    text_unquoted.l0 (k + 1) Q (p : Int) out = text_unquoted.l0 k Q ((p + (enc r).data.toList.length : Nat) : Int) (out ++ bytesOf (enc r)) := by
  have hE := suf Q p
  have hep := T2.enc_pos r hg
  have hp : p + (enc r).data.toList.length ≤ Q.size := by
    have := congrArg List.length h
    rw [List.length_drop, size_list, List.length_append] at this
    omega
  have hes := suf_size Q p
  obtain ⟨r1, r2, r3⟩ := T2.rune_at (Q.extract p Q.size) 0 r hg rest (by rw [List.drop_zero, hE, h])
  have hex : Q.extract p (p + (enc r).data.toList.length) = enc r := ext_list (by
    rw [← toList_data, extract_list, h, show p + (enc r).data.toList.length - p = (enc r).data.toList.length by omega, List.take_left])
  simp only [text_unquoted.l0]
  rw [if_pos (by omega), if_pos (by omega), if_pos (by omega), show ((p : Int)).toNat = p from rfl, cutE _ r1, if_neg (by omega), Option.bind_some, if_neg Bool.false_ne_true]
  simp only [r3]
  rw [if_neg h34, if_neg h92, T1.isHidden k _ (by omega), Option.bind_some, hh, if_neg (by decide), r2, wrap64_id (by omega) (by omega), show (p : Int) + ((enc r).data.toList.length : Int) = ((p + (enc r).data.toList.length : Nat) : Int) by omega, if_pos (by omega), if_pos (by omega), show (((p + (enc r).data.toList.length : Nat) : Int)).toNat = p + (enc r).data.toList.length from rfl, hex, if_pos (by rw [← size_list]; omega)]
end TU
end Go.Proofs.YtplhcnlpfoiieaaDoor.Pure
