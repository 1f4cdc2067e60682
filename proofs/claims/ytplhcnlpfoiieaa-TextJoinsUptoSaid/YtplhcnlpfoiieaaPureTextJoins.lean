/- The line of every list of words, the first that may not be and the error are the document's; what was handed in is as it was. -/
import Derived.Test.YtplhcnlpfoiieaaPureText9
import Derived.Test.YtplhcnlpfoiieaaXRead
import Derived.Test.YtplhcnlpfoiieaaPx76
set_option linter.unusedVariables false
set_option linter.unusedSimpArgs false
namespace Go.Proofs.Ytplhcnlpfoiieaa.Pure
open Go.RowKit Go.Proofs.Ytplhcnlpfoiieaa.P Go.Proofs.YtplhcnlpfoiieaaW.PrintWords Go.Proofs.YtplhcnlpfoiieaaW.PrintLast Go.Proofs.Ytplhcnlpfoiieaa.PL

namespace TJ
open T9
theorem rd72 (s : ByteArray) (L : List Nat) (j : Nat) (h : j < L.length) : rd_T72 (L.map (T0.mkR s)) (j : Int) = ⟨(U.rn s L[j] : Int), (L[j] : Int), (U.stp s L[j] : Int), decide (U.usz s L[j] = 0)⟩ := by simp [rd_T72, h, T0.mkR]
theorem at_ (s : ByteArray) (L : List Nat) (j : Nat) (hL : L.length < 1000000000) : shardref1_at.f (L.map (T0.mkR s)) (j : Int) = some (if h : j < L.length then (if U.usz s L[j] = 0 then -1 else (U.uval s L[j] (U.usz s L[j]) : Int)) else -1) := by
  unfold shardref1_at.f
  rw [List.length_map]
  by_cases h : j < L.length
  · rw [if_neg (by omega), if_pos (by omega), if_pos (by omega), rd72 s L j h, dif_pos h]
    generalize L[j] = i
    by_cases hu : U.usz s i = 0
    · simp only []; rw [if_pos (decide_eq_true hu), if_pos hu]
    · simp only []; rw [if_neg (by rw [decide_eq_false hu]; decide), if_neg hu, U.rn, if_neg hu]
  · rw [if_pos (by omega), dif_neg h]
theorem bareEnd_l (s : ByteArray) (L : List Nat) (hL : L.length < 1000000000) : ∀ (d k j : Nat), j + d = L.length → d + 30 < k →
    ∃ x p e : Int, shardref1_bareEnd.l0 k (L.map (T0.mkR s)) (j : Int) = some (x, p, e) ∧ ((L.drop j).all (okp s) = true → e = 0 ∧ x = L.length) ∧ ((L.drop j).all (okp s) = false → e ≠ 0 ∨ x ≠ L.length)
  | 0, k, j, hd, hk => by
    obtain ⟨k, rfl⟩ : ∃ x, k = x + 1 := ⟨k - 1, by omega⟩
    refine ⟨(j : Int), 0, 0, ?_, fun _ => ⟨rfl, by omega⟩, fun h => ?_⟩
    · simp only [shardref1_bareEnd.l0]
      rw [if_neg (by rw [List.length_map]; omega)]
    · rw [List.drop_eq_nil_of_le (by omega)] at h; simp at h
  | d + 1, k, j, hd, hk => by
    obtain ⟨k, rfl⟩ : ∃ x, k = x + 1 := ⟨k - 1, by omega⟩
    have hjl : j < L.length := by omega
    obtain ⟨x, p, e, h1, h2, h3⟩ := bareEnd_l s L hL d k (j + 1) (by omega) (by omega)
    simp only [shardref1_bareEnd.l0, rd72 s L j hjl]
    rw [if_pos (by rw [List.length_map]; omega), shardref1_blank.f, at_ s L j hL, Option.bind_some, dif_pos hjl, List.drop_eq_getElem_cons hjl, List.all_cons, wrap64_id (by omega) (by omega), show (j : Int) + 1 = ((j + 1 : Nat) : Int) from rfl, h1]
    generalize L[j] = i
    by_cases hu : U.usz s i = 0
    · rw [if_pos hu, if_neg (by decide), Option.bind_some, show ((-1 : Int) == 9) = false from rfl, if_neg (by decide), if_pos (by omega), if_pos (decide_eq_true hu)]
      refine ⟨_, _, _, rfl, fun h => ?_, fun _ => .inl (by decide)⟩
      rw [okp, decide_eq_false (by simp [hu]), Bool.false_and] at h
      exact absurd h (by decide)
    · have er : U.rn s i = U.uval s i (U.usz s i) := by rw [U.rn, if_neg hu]
      rw [if_neg hu, er, T1.Hidden k _ (by omega), Option.bind_some]
      unfold okp
      generalize U.uval s i (U.usz s i) = r
      by_cases c1 : r = 32
      · rw [if_pos (by omega), Option.bind_some, if_pos rfl, decide_eq_false (by simp [c1]), Bool.false_and]
        exact ⟨_, _, _, rfl, fun h => absurd h (by decide), fun _ => .inr (by omega)⟩
      · rw [if_neg (by omega), Option.bind_some]
        by_cases c9 : r = 9
        · rw [show (((r : Nat) : Int) == 9) = true by simp [c9], if_pos rfl, decide_eq_false (by rw [c9]; simp; exact fun _ => by decide), Bool.false_and]
          exact ⟨_, _, _, rfl, fun h => absurd h (by decide), fun _ => .inr (by omega)⟩
        · rw [show (((r : Nat) : Int) == 9) = false by rw [beq_eq_false_iff_ne]; omega, if_neg (by decide), if_pos (by omega), if_neg (by rw [decide_eq_false hu]; decide)]
          by_cases c4 : T1.hid (r : Int) = true
          · rw [if_pos c4, decide_eq_false (by simp [c4]), Bool.false_and]
            exact ⟨_, _, _, rfl, fun h => absurd h (by decide), fun _ => .inl (by decide)⟩
          · rw [if_neg c4]
            by_cases c2 : r = 34
            · rw [if_pos (by omega), decide_eq_false (by simp [c2]), Bool.false_and]
              exact ⟨_, _, _, rfl, fun h => absurd h (by decide), fun _ => .inl (by decide)⟩
            · rw [if_neg (by omega)]
              by_cases c3 : r = 92
              · rw [if_pos (by omega), decide_eq_false (by simp [c3]), Bool.false_and]
                exact ⟨_, _, _, rfl, fun h => absurd h (by decide), fun _ => .inl (by decide)⟩
              · rw [if_neg (by omega), decide_eq_true ⟨hu, c1, c2, c3, by simpa using c4⟩, Bool.true_and]
                exact ⟨x, p, e, rfl, h2, h3⟩
theorem rBare (s : ByteArray) (hs : s.size ≤ 100000000) (k : Nat) (hk : s.size + 40 < k) : shardref1_Bare.f k s = some (bare s) := by
  have hl := U.cuts_len s s.size 0
  unfold shardref1_Bare.f bare
  by_cases h0 : s.size = 0
  · rw [if_pos (by omega), decide_eq_false (by simp [h0])]
    simp
  · rw [if_neg (by omega), decide_eq_true h0, Bool.true_and, T0.pieces s (by omega) k (by omega), Option.bind_some]
    obtain ⟨x, p, e, h1, h2, h3⟩ := bareEnd_l s (U.cuts s s.size 0) (by omega) _ k 0 (by rw [Nat.zero_add]) (by omega)
    rw [shardref1_bareEnd.f, show shardref1_bareEnd.l0 k ((U.cuts s s.size 0).map (T0.mkR s)) 0 = some (x, p, e) from h1, Option.bind_some, List.length_map]
    simp only []
    rw [List.drop_zero] at h2 h3
    have hb : bt s 0 = (U.B s 0 : Int) := T0.bt_B s 0
    rw [hb]
    cases hall : (U.cuts s s.size 0).all (okp s) with
    | true =>
      obtain ⟨he, hx⟩ := h2 hall
      rw [if_pos he, if_pos hx, if_pos (by omega), Bool.and_true]
      congr 1
      by_cases h35 : U.B s 0 = 35
      · rw [decide_eq_false (by simp [h35])]; simp [h35]
      · rw [decide_eq_true h35, bne_iff_ne]; omega
    | false =>
      rw [Bool.and_false]
      rcases h3 hall with h | h
      · rw [if_neg h]
      · by_cases he : e = 0
        · rw [if_pos he, if_neg h]
        · rw [if_neg he]
def nums (l : List UInt8) : List Int := l.map fun c => (c.toNat : Int)
theorem nums_len (l : List UInt8) : (nums l).length = l.length := by simp [nums]
theorem nums_app (a : List UInt8) (b : ByteArray) : nums a ++ bytesOf b = nums (a ++ b.data.toList) := by simp [nums, bytesOf]
theorem nums_32 (a : List UInt8) : nums a ++ [32] = nums (a ++ [32]) := by simp [nums]
theorem str_nums (l : List UInt8) : strOfNums (nums l) = ⟨l.toArray⟩ := by
  unfold strOfNums nums
  rw [List.map_map]
  congr 2
  conv => rhs; rw [← List.map_id l]
  refine List.map_congr_left fun c _ => ?_
  simp only [Function.comp_apply, Int.toNat_natCast, UInt8.ofNat_toNat, id_eq]
def conv (x : S50) : S51 := ⟨x.f0, x.f1, x.f2⟩
theorem rJoin_l (l : List (S50)) (hl : l.length ≤ 64) (hs : ∀ x ∈ l, x.f0.size ≤ 1048576) : ∀ (d k j : Nat) (bs : List UInt8), j + d = l.length → d + 2000000 < k → bs.length ≤ 13000000 * j →
    shardref1_Join.l0 k (l.map conv) (nums bs) (j : Int) = some (join ((l.drop j).map word) j bs)
  | 0, k, j, bs, hd, hk, hb => by
    obtain ⟨k, rfl⟩ : ∃ x, k = x + 1 := ⟨k - 1, by omega⟩
    simp only [shardref1_Join.l0]
    rw [if_neg (by rw [List.length_map]; omega), List.drop_eq_nil_of_le (by omega), List.map_nil, join, nums_len, str_nums]
    split <;> rfl
  | d + 1, k, j, bs, hd, hk, hb => by
    obtain ⟨k, rfl⟩ : ∃ x, k = x + 1 := ⟨k - 1, by omega⟩
    have hjl : j < l.length := by omega
    have hsz := hs l[j] (List.getElem_mem hjl)
    have er : rd_T51 (l.map conv) (j : Int) = conv l[j] := by simp [rd_T51, hjl]
    have ih := fun bs => rJoin_l l hl hs d k (j + 1) bs (by omega) (by omega)
    simp only [shardref1_Join.l0]
    rw [er, if_pos (by rw [List.length_map]; omega), if_pos (by omega), wrap64_id (by omega) (by omega), List.drop_eq_getElem_cons hjl, List.map_cons, show word l[j] = (l[j].f0, l[j].f1) from rfl, join]
    generalize l[j] = x at *
    have hq := TQ.quote_size x.f0
    simp only [conv]
    have go : ∀ (t : ByteArray), t.size ≤ 12582920 → (if (j : Int) > 0 then (if (nums bs).length < 140737488355328 then ((some (nums bs ++ [32] : List Int)).bind fun y267 => (if y267.length + t.size < 140737488355328 then (shardref1_Join.l0 k (l.map conv) (y267 ++ bytesOf t) ((j : Int) + 1)) else (none))) else (none)) else (if (nums bs).length + t.size < 140737488355328 then (shardref1_Join.l0 k (l.map conv) (nums bs ++ bytesOf t) ((j : Int) + 1)) else (none))) = some (join ((l.drop (j + 1)).map word) (j + 1) ((if 0 < j then bs ++ [32] else bs) ++ t.data.toList)) := by
      intro t ht
      by_cases c : 0 < j
      · rw [if_pos (by omega), if_pos (by rw [nums_len]; omega), Option.bind_some, if_pos (by rw [List.length_append, nums_len]; simp; omega), nums_32, nums_app, if_pos c]
        exact ih _ (by rw [List.length_append, List.length_append, size_list]; simp; omega)
      · rw [if_neg (by omega), if_pos (by rw [nums_len]; omega), nums_app, if_neg c]
        exact ih _ (by rw [List.length_append, size_list]; omega)
    by_cases c : x.f1 = true
    · simp only [c, if_true]
      rw [TQ.rQuote x.f0 hsz k (by omega), Option.bind_some]
      exact go _ (by omega)
    · simp only [c, if_false, Bool.false_eq_true]
      rw [rBare x.f0 (by omega) k (by omega), Option.bind_some]
      by_cases cb : bare x.f0 = true
      · rw [if_pos cb, if_pos cb]
        exact go _ (by omega)
      · rw [if_neg cb, if_neg cb]
theorem rJoin (l : List (S50)) (hl : l.length ≤ 1000000000) (hs : ∀ x ∈ l, x.f0.size ≤ 1048576) (k : Nat) (hk : 2000100 < k) : shardref1_Join.f k (l.map conv) = some (joined (l.map word)) := by
  unfold shardref1_Join.f joined
  rw [List.length_map, List.length_map]
  by_cases c : l.length > 64
  · rw [if_pos (by omega), if_pos c]
  · rw [if_neg (by omega), if_neg c]
    have := rJoin_l l (by omega) hs l.length k 0 [] (by omega) (by omega) (by simp)
    simpa [nums] using this
theorem l1 (l : List (S50)) (hl : l.length ≤ 1000000000) : ∀ (d k j : Nat), j + d = l.length → d < k → shardlaw1_TextJoins.l1 k l l (j : Int) = some true
  | 0, k, j, hd, hk => by
    obtain ⟨k, rfl⟩ : ∃ x, k = x + 1 := ⟨k - 1, by omega⟩
    simp only [shardlaw1_TextJoins.l1]
    rw [if_neg (by omega)]
  | d + 1, k, j, hd, hk => by
    obtain ⟨k, rfl⟩ : ∃ x, k = x + 1 := ⟨k - 1, by omega⟩
    simp only [shardlaw1_TextJoins.l1]
    rw [if_pos (by omega), if_pos (by omega), if_pos (by omega), wrap64_id (by omega) (by omega)]
    simp only [beq_self_eq_true, Bool.not_true, Bool.or_false, Bool.false_eq_true, if_false]
    exact l1 l hl d k (j + 1) (by omega) (by omega)
theorem l0 (l : List (S50)) (hl : l.length ≤ 1048576) (hs : ∀ x ∈ l, x.f0.size ≤ 1048576) : ∀ (d k j : Nat), j + d = l.length → d + 3500000 < k → shardlaw1_TextJoins.l0 k l ((l.take j).map conv) (l.take j) (j : Int) = some true
  | 0, k, j, hd, hk => by
    obtain ⟨k, rfl⟩ : ∃ x, k = x + 2 := ⟨k - 2, by omega⟩
    rw [show j = l.length by omega, List.take_length]
    simp only [shardlaw1_TextJoins.l0]
    rw [if_neg (by omega), tJoin l (by omega) hs (k + 1) (by omega), rJoin l (by omega) hs (k + 1) (by omega), Option.bind_some, Option.bind_some, if_pos rfl, if_pos rfl, shardlaw1_num.f, Option.bind_some, bne_self_eq_false]
    simp only [shardlaw1_TextJoins.j1, Bool.false_eq_true, if_false]
    exact l1 l (by omega) l.length k 0 (by omega) (by omega)
  | d + 1, k, j, hd, hk => by
    obtain ⟨k, rfl⟩ : ∃ x, k = x + 1 := ⟨k - 1, by omega⟩
    have hjl : j < l.length := by omega
    have er : rd_T50 l (j : Int) = l[j] := by simp [rd_T50, hjl]
    simp only [shardlaw1_TextJoins.l0]
    rw [er, if_pos (by omega), if_pos (by omega), if_pos (by rw [List.length_map, List.length_take]; omega), if_pos (by rw [List.length_take]; omega), wrap64_id (by omega) (by omega)]
    have e1 : l.take j ++ [(⟨l[j].f0, l[j].f1, l[j].f2⟩ : S50)] = l.take (j + 1) := by rw [List.take_succ_eq_append_getElem hjl]
    have e2 : (l.take j).map conv ++ [(⟨l[j].f0, l[j].f1, l[j].f2⟩ : S51)] = (l.take (j + 1)).map conv := by rw [List.take_succ_eq_append_getElem hjl, List.map_append]; rfl
    rw [e1, e2]
    exact l0 l hl hs d k (j + 1) (by omega) (by omega)
end TJ
theorem TextJoins (l : List (S50)) (hz : (l.map fun x => (x.f0.size + 1 + (1 + 1)) + 1).sum + 1 ≤ 1048576) (hw : ∀ x ∈ l, True ∧ True ∧ (Lit.int .i64 x.f2).wf = true) : ∃ k, shardlaw1_TextJoins.f k l = some true := by
  have h1 := reads.length_le l (fun x => (x.f0.size + 1 + (1 + 1)) + 1) (fun x => by omega)
  have h2 : ∀ x ∈ l, x.f0.size ≤ 1048576 := fun x hx => by
    have := reads.mem_le l (fun x => (x.f0.size + 1 + (1 + 1)) + 1) x hx
    omega
  exact ⟨5000000, TJ.l0 l (by omega) h2 l.length 5000000 0 (by omega) (by omega)⟩
end Go.Proofs.Ytplhcnlpfoiieaa.Pure
