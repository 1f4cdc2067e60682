/- Plain facts shared by the statements of chapter 1: bare words, the line of a list of words. No program in sight. -/
import Derived.Test.YtplhcnlpfoiieaaDoorPureTextQ0
import Derived.Test.YtplhcnlpfoiieaaDoorPx29
set_option linter.unusedVariables false
set_option linter.unusedSimpArgs false
namespace Go.Proofs.YtplhcnlpfoiieaaDoor.Pure
open Go.RowKit Go.Proofs.YtplhcnlpfoiieaaDoor.P Go.Proofs.YtplhcnlpfoiieaaDoorW.PrintWords Go.Proofs.YtplhcnlpfoiieaaDoorW.PrintLast Go.Proofs.YtplhcnlpfoiieaaDoor.PL

namespace T9
theorem rd28 (s : ByteArray) (L : List Nat) (j : Nat) (h : j < L.length) : rd_T53 (L.map (text_Pieces.at_ s)) (j : Int) = ⟨(U.rn s L[j] : Int), (L[j] : Int), (U.stp s L[j] : Int), decide (U.usz s L[j] = 0)⟩ := by simp [rd_T53, h, text_Pieces.at_]
/-- A piece that may stand in a bare word. -/
def okp (s : ByteArray) (i : Nat) : Bool := decide (U.usz s i ≠ 0 ∧ U.uval s i (U.usz s i) ≠ 32 ∧ U.uval s i (U.usz s i) ≠ 34 ∧ U.uval s i (U.usz s i) ≠ 92 ∧ T1.hid (U.uval s i (U.usz s i)) = false)
/-- A bare word. -/
def bare (s : ByteArray) : Bool := decide (s.size ≠ 0) && decide (U.B s 0 ≠ 35) && (U.cuts s s.size 0).all (okp s)
theorem tBare_l (s : ByteArray) (L : List Nat) (hL : L.length < 1000000000) : ∀ (d k j : Nat), j + d = L.length → d + 30 < k → text_bare.l0 k (L.map (text_Pieces.at_ s)) (L.length : Int) (j : Int) = some ((L.drop j).all (okp s))
  | 0, k, j, hd, hk => by
    obtain ⟨k, rfl⟩ : ∃ x, k = x + 1 := ⟨k - 1, by omega⟩
    simp only [text_bare.l0]
    rw [if_neg (by omega), List.drop_eq_nil_of_le (by omega)]
    rfl
  | d + 1, k, j, hd, hk => by
    obtain ⟨k, rfl⟩ : ∃ x, k = x + 1 := ⟨k - 1, by omega⟩
    have hjl : j < L.length := by omega
    have ih := tBare_l s L hL d k (j + 1) (by omega) (by omega)
    simp only [text_bare.l0, rd28 s L j hjl]
    rw [if_pos (by omega), if_pos (by omega), if_pos (by rw [List.length_map]; omega), List.drop_eq_getElem_cons hjl, List.all_cons, wrap64_id (by omega) (by omega), show (j : Int) + 1 = ((j + 1 : Nat) : Int) from rfl, ih]
    generalize L[j] = i
    by_cases hu : U.usz s i = 0
    · rw [if_pos (decide_eq_true hu), okp, decide_eq_false (by simp [hu]), Bool.false_and]
    · rw [if_neg (by rw [decide_eq_false hu]; decide)]
      have er : U.rn s i = U.uval s i (U.usz s i) := by rw [U.rn, if_neg hu]
      rw [er, T1.isHidden k _ (by omega), Option.bind_some]
      unfold okp
      generalize U.uval s i (U.usz s i) = r
      by_cases c1 : r = 32
      · rw [if_pos (by omega), decide_eq_false (by simp [c1]), Bool.false_and]
      · rw [if_neg (by omega)]
        by_cases c2 : r = 34
        · rw [if_pos (by omega), decide_eq_false (by simp [c2]), Bool.false_and]
        · rw [if_neg (by omega)]
          by_cases c3 : r = 92
          · rw [if_pos (by omega), decide_eq_false (by simp [c3]), Bool.false_and]
          · rw [if_neg (by omega)]
            by_cases c4 : T1.hid (r : Int) = true
            · rw [if_pos c4, decide_eq_false (by simp [c4]), Bool.false_and]
            · rw [if_neg c4, decide_eq_true ⟨hu, c1, c2, c3, by simpa using c4⟩, Bool.true_and]
theorem toList_nil (s : ByteArray) : s.toList = ([] : List UInt8) ↔ s.size = 0 := by
  rw [toList_data, ← size_list]
  exact List.length_eq_zero_iff.symm
theorem tBare (s : ByteArray) (hs : s.size ≤ 100000000) (k : Nat) (hk : s.size + 40 < k) : text_bare.f k s = some (bare s) := by
  obtain ⟨k, rfl⟩ : ∃ x, k = x + 1 := ⟨k - 1, by omega⟩
  have hl := U.cuts_len s s.size 0
  unfold text_bare.f bare
  by_cases h0 : s.size = 0
  · rw [if_pos ((toList_nil s).2 h0), decide_eq_false (by simp [h0])]
    simp [text_bare.j0]
  · rw [if_neg (fun h => h0 ((toList_nil s).1 h)), if_pos (by omega), decide_eq_true h0, Bool.true_and]
    have hb : bt s 0 = (U.B s 0 : Int) := T0.bt_B s 0
    rw [hb]
    by_cases h1 : U.B s 0 = 35
    · have e : (((U.B s 0 : Nat) : Int) == 35) = true := by simp [h1]
      rw [e, decide_eq_false (by simp [h1])]
      simp [text_bare.j0]
    · have e : (((U.B s 0 : Nat) : Int) == 35) = false := by rw [beq_eq_false_iff_ne]; omega
      rw [e, decide_eq_true h1, Bool.true_and]
      simp only [text_bare.j0, Bool.false_eq_true, if_false]
      rw [T0.tpieces s (by omega), Option.bind_some, List.length_map]
      have := tBare_l s (U.cuts s s.size 0) (by omega) _ k 0 (by rw [Nat.zero_add]) (by omega)
      simpa using this
/-- A line of words (text and whether it is to be quoted), from the i-th on, behind bs. -/
def join : List (ByteArray × Bool) → Nat → List UInt8 → ByteArray × Int × Int
  | [], _, bs => if (bs.length : Int) > 4096 then ((⟨#[]⟩ : ByteArray), 4096, 10) else ((⟨bs.toArray⟩ : ByteArray), 0, 0)
  | (t, q) :: ws, i, bs =>
    if q = true then join ws (i + 1) ((if 0 < i then bs ++ [32] else bs) ++ (TQ.quote t).data.toList)
    else if bare t = true then join ws (i + 1) ((if 0 < i then bs ++ [32] else bs) ++ t.data.toList)
    else ((⟨#[]⟩ : ByteArray), (i : Int), 14)
def word (x : S45) : ByteArray × Bool := (x.f0, x.f1)
theorem pre_len (i : Nat) (bs : List UInt8) : (if 0 < i then bs ++ [32] else bs).length ≤ bs.length + 1 := by split <;> simp
theorem tJoin_l (l : List (S45)) (hl : l.length ≤ 64) (hs : ∀ x ∈ l, x.f0.size ≤ 1048576) : ∀ (d k j : Nat) (bs : List UInt8), j + d = l.length → d + 2000000 < k → bs.length ≤ 13000000 * j →
    text_Join.l0 k l bs (j : Int) = some (join ((l.drop j).map word) j bs)
  | 0, k, j, bs, hd, hk, hb => by
    obtain ⟨k, rfl⟩ : ∃ x, k = x + 1 := ⟨k - 1, by omega⟩
    simp only [text_Join.l0]
    rw [if_neg (by omega), List.drop_eq_nil_of_le (by omega), List.map_nil, join]
    split <;> rfl
  | d + 1, k, j, bs, hd, hk, hb => by
    obtain ⟨k, rfl⟩ : ∃ x, k = x + 1 := ⟨k - 1, by omega⟩
    have hjl : j < l.length := by omega
    have hsz := hs l[j] (List.getElem_mem hjl)
    have er : rd_T45 l (j : Int) = l[j] := by simp [rd_T45, hjl]
    have ih := fun bs => tJoin_l l hl hs d k (j + 1) bs (by omega) (by omega)
    have hp := pre_len j bs
    have hpre : (if (j : Int) > 0 then bs ++ [32] else bs) = (if 0 < j then bs ++ [32] else bs) := by
      by_cases c : 0 < j
      · rw [if_pos c, if_pos (by omega)]
      · rw [if_neg c, if_neg (by omega)]
    simp only [text_Join.l0]
    rw [er, if_pos (by omega), if_pos (by omega), if_pos (by omega), hpre, wrap64_id (by omega) (by omega), List.drop_eq_getElem_cons hjl, List.map_cons, show word l[j] = (l[j].f0, l[j].f1) from rfl, join]
    generalize l[j] = x at *
    have hq := TQ.quote_size x.f0
    by_cases c : x.f1 = true
    · rw [if_pos c, if_pos c, TQ.tQuote x.f0 hsz k (by omega), Option.bind_some, if_pos (by omega)]
      exact ih _ (by rw [List.length_append, size_list]; omega)
    · rw [if_neg c, if_neg c, tBare x.f0 (by omega) k (by omega), Option.bind_some]
      by_cases cb : bare x.f0 = true
      · rw [if_pos cb, if_pos cb, if_pos (by omega)]
        exact ih _ (by rw [List.length_append, size_list]; omega)
      · rw [if_neg cb, if_neg cb]
/-- The line of all words, or why there is none. -/
def joined (l : List (ByteArray × Bool)) : ByteArray × Int × Int := if l.length > 64 then ((⟨#[]⟩ : ByteArray), 0, 18) else join l 0 []
theorem tJoin (l : List (S45)) (hl : l.length ≤ 1000000000) (hs : ∀ x ∈ l, x.f0.size ≤ 1048576) (k : Nat) (hk : 2000100 < k) : text_Join.f k l = some (joined (l.map word)) := by
  unfold text_Join.f joined
  rw [List.length_map]
  by_cases c : l.length > 64
  · rw [if_pos (by omega), if_pos c]
  · rw [if_neg (by omega), if_neg c]
    have := tJoin_l l (by omega) hs l.length k 0 [] (by omega) (by omega) (by simp)
    simpa using this
end T9
end Go.Proofs.YtplhcnlpfoiieaaDoor.Pure
