/- Without the document's answer: what stands ahead of or behind whole runes does not change how they, or it, are cut. -/
import Derived.Test.YtplhcnlpfoiieaaPureText2
import Derived.Test.YtplhcnlpfoiieaaPx64
set_option linter.unusedVariables false
set_option linter.unusedSimpArgs false
set_option linter.unusedSectionVars false
namespace Go.Proofs.Ytplhcnlpfoiieaa.Pure
open Go.RowKit Go.Proofs.Ytplhcnlpfoiieaa.P Go.Proofs.YtplhcnlpfoiieaaW.PrintWords Go.Proofs.YtplhcnlpfoiieaaW.PrintLast Go.Proofs.Ytplhcnlpfoiieaa.PL

namespace TA
open T1 (good enc)
open T2
section
variable (a b s : ByteArray) (G : List Int) (hG : ∀ r ∈ G, good r) (ha : a.data.toList = encs G) (hs : s.data.toList = encs G ++ b.data.toList) (hsz : s.size < 1000000000)
include hG ha hs hsz
abbrev Yb (b : ByteArray) := (U.cuts b b.size 0).map (text_Pieces.at_ b)
abbrev Zs (s b : ByteArray) (G : List Int) := mkG G 0 ++ ((U.cuts b b.size 0).map ((encs G).length + ·)).map (text_Pieces.at_ s)
theorem szs : a.size = (encs G).length ∧ s.size = (encs G).length + b.size := by
  constructor
  · rw [← size_list a, ha]
  · rw [← size_list s, hs, List.length_append, size_list]
theorem gl : G.length ≤ (encs G).length := by
  clear ha hs hsz
  induction G with
  | nil => simp [T2.encs]
  | cons r G ih =>
    have := (enc_pos r (hG r List.mem_cons_self)).1
    have := ih (fun x hx => hG x (List.mem_cons_of_mem _ hx))
    rw [encs_cons, List.length_append, List.length_cons]
    omega
theorem pieces_s : text_Pieces.f s = some (Zs s b G) := by
  rw [T0.tpieces s (by omega), cuts_all s b G hG hs s.size (Nat.le_refl _), List.map_append, map_starts s G 0 b.data.toList hG (by rw [List.drop_zero]; exact hs)]
theorem pieces_a : text_Pieces.f a = some (mkG G 0) := by
  have h := szs a b s G hG ha hs hsz
  have := cuts_all a ⟨#[]⟩ G hG (by rw [ha]; simp) a.size (Nat.le_refl _)
  rw [T0.tpieces a (by omega), this, List.map_append, map_starts a G 0 [] hG (by rw [List.drop_zero, ha, List.append_nil])]
  simp [U.cuts, ByteArray.size]
theorem loop2 : ∀ (d k i : Nat), i + d = (U.cuts b b.size 0).length → d < k → shardlaw1_TextApart.l2 k a (G.length : Int) (Yb b) (Zs s b G) (i : Int) = some true
  | 0, k, i, hi, hk => by
    obtain ⟨k, rfl⟩ : ∃ x, k = x + 1 := ⟨k - 1, by omega⟩
    simp only [shardlaw1_TextApart.l2]
    rw [if_neg (by rw [List.length_map]; omega)]
  | d + 1, k, i, hi, hk => by
    obtain ⟨k, rfl⟩ : ∃ x, k = x + 1 := ⟨k - 1, by omega⟩
    have h := szs a b s G hG ha hs hsz
    have hgl := gl a b s G hG ha hs hsz
    have hcl := U.cuts_len b b.size 0
    have hlt : i < (U.cuts b b.size 0).length := by omega
    have hd2 : s.data.toList.drop (encs G).length = b.data.toList := by rw [hs, List.drop_left]
    have hcb := T0.cuts_lt b b.size 0 _ (List.getElem_mem hlt)
    generalize hq : (U.cuts b b.size 0)[i] = q at hcb
    have e1 : rd_T28 (Yb b) (i : Int) = ⟨(U.rn b q : Int), (q : Int), (U.stp b q : Int), decide (U.usz b q = 0)⟩ := by
      simp [rd_T28, hlt, hq, text_Pieces.at_]
    have e2 : rd_T28 (Zs s b G) ((G.length : Int) + (i : Int)) = ⟨(U.rn b q : Int), (((encs G).length + q : Nat) : Int), (U.stp b q : Int), decide (U.usz b q = 0)⟩ := by
      have hidx : ((G.length : Int) + (i : Int)).toNat = (mkG G 0).length + i := by rw [mkG_len]; omega
      rw [rd_T28, hidx, List.getD_eq_getElem?_getD, List.getElem?_append_right (by omega)]
      simp [hlt, hq, text_Pieces.at_, rn_shift hd2 (by omega) q, stp_shift hd2 (by omega) q, usz_shift hd2 (by omega) q]
    simp only [shardlaw1_TextApart.l2]
    rw [wrap64_id (x := (G.length : Int) + (i : Int)) (by omega) (by omega), e1, e2]
    simp only []
    rw [if_pos (show (i : Int) < ((Yb b).length : Int) by rw [List.length_map]; omega), if_pos (show (0 : Int) ≤ (G.length : Int) + (i : Int) by omega), if_pos (show (G.length : Int) + (i : Int) < ((Zs s b G).length : Int) by rw [List.length_append, mkG_len, List.length_map, List.length_map]; omega), if_pos (show (0 : Int) ≤ (i : Int) by omega), if_pos trivial, wrap64_id (x := (q : Int) + (a.size : Int)) (by omega) (by omega), if_pos (show (((encs G).length + q : Nat) : Int) = (q : Int) + (a.size : Int) by omega), if_neg (by simp), wrap64_id (x := (i : Int) + 1) (by omega) (by omega)]
    exact loop2 d k (i + 1) (by omega) (by omega)
theorem loop1 : ∀ (d k i : Nat), i + d = G.length → d + (U.cuts b b.size 0).length + 2 < k → shardlaw1_TextApart.l1 k a (G.length : Int) (mkG G 0) (Yb b) (Zs s b G) (i : Int) = some true
  | 0, k, i, hi, hk => by
    obtain ⟨k, rfl⟩ : ∃ x, k = x + 1 := ⟨k - 1, by omega⟩
    simp only [shardlaw1_TextApart.l1]
    rw [if_neg (by rw [mkG_len]; omega)]
    exact loop2 a b s G hG ha hs hsz (U.cuts b b.size 0).length k 0 (by omega) (by omega)
  | d + 1, k, i, hi, hk => by
    obtain ⟨k, rfl⟩ : ∃ x, k = x + 1 := ⟨k - 1, by omega⟩
    have h := szs a b s G hG ha hs hsz
    have hgl := gl a b s G hG ha hs hsz
    have hlt : i < (mkG G 0).length := by rw [mkG_len]; omega
    have e1 : rd_T28 (mkG G 0) (i : Int) = (mkG G 0)[i] := by simp [rd_T28, hlt]
    have e2 : rd_T28 (Zs s b G) (i : Int) = (mkG G 0)[i] := by
      rw [rd_T28, Int.toNat_natCast, List.getD_eq_getElem?_getD, List.getElem?_append_left hlt, List.getElem?_eq_getElem hlt]; rfl
    have hw := mkG_whole G 0 _ (List.getElem_mem hlt)
    simp only [shardlaw1_TextApart.l1]
    rw [e1, e2, hw]
    rw [if_pos (show (i : Int) < ((mkG G 0).length : Int) by omega), if_pos (show (0 : Int) ≤ (i : Int) by omega), if_pos (show (i : Int) < ((Zs s b G).length : Int) by rw [List.length_append]; omega), if_neg (by simp), if_neg (by simp), wrap64_id (x := (i : Int) + 1) (by omega) (by omega)]
    exact loop1 d k (i + 1) (by omega) (by omega)
end
theorem loop0 (L : List Int) (b : ByteArray) (hL : L.length ≤ 1048576) (hb : b.size ≤ 1048576) (hw : ∀ x ∈ L, -2147483648 ≤ x ∧ x ≤ 2147483647) : ∀ (d k i : Nat) (a : ByteArray) (G : List Int), i + d = L.length → a.data.toList = encs G → (∀ r ∈ G, good r) → G.length ≤ i → d + G.length + d + b.size + 10 < k →
    shardlaw1_TextApart.l0 k L b a (G.length : Int) (i : Int) = some true
  | 0, k, i, a, G, hi, ha, hG, hgi, hk => by
    obtain ⟨k, rfl⟩ : ∃ x, k = x + 1 := ⟨k - 1, by omega⟩
    simp only [shardlaw1_TextApart.l0]
    rw [if_neg (by omega)]
    have h4 : (encs G).length ≤ 4 * G.length := by
      clear ha hgi hk
      induction G with
      | nil => simp [T2.encs]
      | cons r G ih =>
        have := (enc_pos r (hG r List.mem_cons_self)).2
        have := ih (fun x hx => hG x (List.mem_cons_of_mem _ hx))
        rw [encs_cons, List.length_append, List.length_cons]
        omega
    have has : a.size = (encs G).length := by rw [← size_list a, ha]
    have hsb : (a ++ b).data.toList = encs G ++ b.data.toList := by rw [ByteArray.data_append, Array.toList_append, ha]
    have hsz : (a ++ b).size < 1000000000 := by rw [ByteArray.size_append]; omega
    have hcl := U.cuts_len b b.size 0
    rw [pieces_a a b (a ++ b) G hG ha hsb hsz, T0.tpieces b (by omega)]
    simp only [Option.bind_some]
    rw [if_pos (by omega), pieces_s a b (a ++ b) G hG ha hsb hsz]
    simp only [Option.bind_some]
    rw [if_pos (by rw [mkG_len])]
    have e : (((Zs (a ++ b) b G).length : Int) != (wrap64 (((mkG G 0).length : Int) + ((Yb b).length : Int)))) = false := by
      rw [mkG_len, List.length_append, mkG_len, List.length_map, List.length_map, List.length_map, wrap64_id (by omega) (by omega), bne_eq_false_iff_eq]
      omega
    rw [e]
    obtain ⟨k, rfl⟩ : ∃ x, k = x + 1 := ⟨k - 1, by omega⟩
    simp only [shardlaw1_TextApart.j1, Bool.false_eq_true, if_false]
    exact loop1 a b (a ++ b) G hG ha hsb hsz G.length k 0 (by omega) (by omega)
  | d + 1, k, i, a, G, hi, ha, hG, hgi, hk => by
    obtain ⟨k, rfl⟩ : ∃ x, k = x + 1 := ⟨k - 1, by omega⟩
    have hlt : i < L.length := by omega
    have er : rd L (i : Int) = L[i] := by simp [rd, hlt]
    have hwi := hw _ (List.getElem_mem hlt)
    simp only [shardlaw1_TextApart.l0]
    rw [er, T1.tEncode k _ (by omega)]
    generalize L[i] = r at hwi
    rw [if_pos (show (i : Int) < (L.length : Int) by omega), if_pos (show (0 : Int) ≤ (i : Int) by omega)]
    simp only [Option.bind_some]
    rw [wrap64_id (x := (i : Int) + 1) (by omega) (by omega)]
    by_cases hg : good r
    · rw [if_pos hg]
      simp only []
      have h4 : (encs G).length ≤ 4 * G.length := by
        clear ha hgi hk
        induction G with
        | nil => simp [T2.encs]
        | cons r G ih =>
          have := (enc_pos r (hG r List.mem_cons_self)).2
          have := ih (fun x hx => hG x (List.mem_cons_of_mem _ hx))
          rw [encs_cons, List.length_append, List.length_cons]
          omega
      have has : a.size = (encs G).length := by rw [← size_list a, ha]
      have hes : (enc r).size ≤ 4 := by rw [← size_list]; exact (enc_pos r hg).2
      rw [if_pos trivial, if_pos (by omega), wrap64_id (x := (G.length : Int) + 1) (by omega) (by omega)]
      have := loop0 L b hL hb hw d k (i + 1) (a ++ enc r) (G ++ [r]) (by omega) (by rw [ByteArray.data_append, Array.toList_append, ha, encs_snoc]) (by
        intro x hx
        rcases List.mem_append.1 hx with h | h
        · exact hG x h
        · rw [List.mem_singleton.1 h]; exact hg) (by rw [List.length_append]; simp; omega) (by rw [List.length_append]; simp; omega)
      rw [List.length_append] at this
      simpa using this
    · rw [if_neg hg]
      simp only []
      rw [if_neg (by decide), if_pos (by rw [ByteArray.toList_eq])]
      have next := loop0 L b hL hb hw d k (i + 1) a G (by omega) ha hG (by omega) (by omega)
      rw [show ((i + 1 : Nat) : Int) = (i : Int) + 1 by omega] at next
      split
      · rw [if_neg (by unfold good at hg; omega)]; exact next
      · exact next
end TA
theorem TextApart (L : List Int) (b : ByteArray) (hL : L.length ≤ 1048576) (hw : ∀ x ∈ L, (Lit.int .i32 x).wf = true) (hb : b.size ≤ 1048576) : ∃ k, shardlaw1_TextApart.f k L b = some true := by
  refine ⟨2 * L.length + b.size + 20, ?_⟩
  have hw2 : ∀ x ∈ L, -2147483648 ≤ x ∧ x ≤ 2147483647 := by
    intro x hx
    simpa [Lit.wf, IntKind.min, IntKind.max, IntKind.signed, IntKind.bits] using hw x hx
  exact TA.loop0 L b hL hb hw2 L.length _ 0 ⟨#[]⟩ [] (by omega) (by simp [T2.encs]) (by simp) (by simp) (by simp; omega)
end Go.Proofs.Ytplhcnlpfoiieaa.Pure
