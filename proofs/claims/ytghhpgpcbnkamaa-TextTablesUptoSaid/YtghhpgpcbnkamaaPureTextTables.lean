/- The law of tables. No program in sight. -/
import Derived.Test.YtghhpgpcbnkamaaXRead
import Derived.Test.YtghhpgpcbnkamaaPureTextT3
import Derived.Test.YtghhpgpcbnkamaaPx19
set_option linter.unusedVariables false
set_option linter.unusedSimpArgs false
namespace Go.Proofs.Ytghhpgpcbnkamaa.Pure
open Go.RowKit Go.Proofs.Ytghhpgpcbnkamaa.P Go.Proofs.YtghhpgpcbnkamaaW.PrintWords Go.Proofs.YtghhpgpcbnkamaaW.PrintLast Go.Proofs.YtghhpgpcbnkamaaW.PrintMore Go.Proofs.Ytghhpgpcbnkamaa.PL

namespace TL
open TT (Row Ans ans)
theorem same_l (l : Row) (hl : l.length < 1000000000) : ∀ (d j k : Nat), j + d = l.length → d < k → shardlaw1_sameLines.l0 k l l (j : Int) = some true
  | 0, j, k, hj, hk => by
    obtain ⟨k, rfl⟩ : ∃ x, k = x + 1 := ⟨k - 1, by omega⟩
    simp only [shardlaw1_sameLines.l0]
    rw [if_neg (by omega)]
  | d + 1, j, k, hj, hk => by
    obtain ⟨k, rfl⟩ : ∃ x, k = x + 1 := ⟨k - 1, by omega⟩
    simp only [shardlaw1_sameLines.l0]
    rw [if_pos (by omega), if_pos (by omega), if_pos (by omega), wrap64_id (by omega) (by omega), show (j : Int) + 1 = ((j + 1 : Nat) : Int) by omega]
    simp only [if_true]
    exact same_l l hl d (j + 1) k (by omega) (by omega)
theorem same (l : Row) (hl : l.length < 1000000000) (k : Nat) (hk : l.length < k) : shardlaw1_sameLines.f k l l = some true := by
  unfold shardlaw1_sameLines.f
  rw [if_pos rfl]
  exact same_l l hl l.length 0 k (by omega) hk
theorem ans_len (rows : List Row) : (ans rows).1.length ≤ 256 := by
  unfold TT.ans
  split
  · exact Nat.zero_le _
  · split
    · exact Nat.zero_le _
    · show (TT.lines rows).length ≤ 256
      unfold TT.lines; rw [List.length_map]; omega
section
variable (rows : List Row) (hn : rows.length ≤ 1048576) (hr : ∀ r ∈ rows, r.length ≤ 1048576) (F : Nat) (hF : 4000000 ≤ F)
include hn hr hF
theorem l4 : ∀ (d i k : Nat), i + d = rows.length → F + d < k + 2000000 → shardlaw1_TextTables.l4 k rows rows (i : Int) = some true
  | 0, i, k, hi, hk => by
    obtain ⟨k, rfl⟩ : ∃ x, k = x + 1 := ⟨k - 1, by omega⟩
    simp only [shardlaw1_TextTables.l4]
    rw [if_neg (by omega)]
  | d + 1, i, k, hi, hk => by
    obtain ⟨k, rfl⟩ : ∃ x, k = x + 1 := ⟨k - 1, by omega⟩
    have hil : i < rows.length := by omega
    have h1 := hr _ (List.getElem_mem hil)
    simp only [shardlaw1_TextTables.l4]
    rw [if_pos (by omega), if_pos (by omega), if_pos (by omega), TT.rdL4_nat rows i hil, same _ (by omega) k (by omega)]
    simp only [Option.bind_some, if_true]
    rw [wrap64_id (by omega) (by omega), show (i : Int) + 1 = ((i + 1 : Nat) : Int) by omega]
    exact l4 d (i + 1) k (by omega) (by omega)
theorem j7ok (k : Nat) (hk : F < k) : shardlaw1_TextTables.j7 k rows rows false = some true := by
  obtain ⟨k, rfl⟩ : ∃ x, k = x + 1 := ⟨k - 1, by omega⟩
  simp only [shardlaw1_TextTables.j7, Bool.false_eq_true, if_false]
  exact l4 rows hn hr F hF rows.length 0 k (by omega) (by omega)
theorem j6ok (w a : Row) (h : (a.length : Int) = wrap64 ((w.length : Int) + 40)) (k : Nat) (hk : F + 1 < k) : shardlaw1_TextTables.j6 k rows rows w a true = some true := by
  obtain ⟨k, rfl⟩ : ∃ x, k = x + 1 := ⟨k - 1, by omega⟩
  simp only [shardlaw1_TextTables.j6, if_true]
  rw [h, bne_self_eq_false]
  exact j7ok rows hn hr F hF k (by omega)
theorem l3 (w x : Row) (hw : w.length ≤ 256) (hx : x.length ≤ 256) : ∀ (d j k : Nat) (a : Row), j + d = 40 → a.length = w.length + j → F + 10 + d < k → shardlaw1_TextTables.l3 k rows rows w a x w x (j : Int) = some true := by
  intro d
  induction d with
  | zero =>
    intro j k a hj ha hk
    obtain ⟨k, rfl⟩ : ∃ x, k = x + 1 := ⟨k - 1, by omega⟩
    simp only [shardlaw1_TextTables.l3]
    rw [if_neg (by omega), same w (by omega) _ (by omega), same x (by omega) _ (by omega)]
    simp only [Option.bind_some, if_true]
    exact j6ok rows hn hr F hF w a (by rw [wrap64_id (by omega) (by omega)]; omega) k (by omega)
  | succ d ih =>
    intro j k a hj ha hk
    obtain ⟨k, rfl⟩ : ∃ x, k = x + 1 := ⟨k - 1, by omega⟩
    simp only [shardlaw1_TextTables.l3]
    rw [if_pos (by omega), if_pos (by omega), wrap64_id (by omega) (by omega), show (j : Int) + 1 = ((j + 1 : Nat) : Int) by omega]
    exact ih (j + 1) k _ (by omega) (by rw [List.length_append, ha]; rfl) (by omega)
theorem l2 (w x : Row) (hw : w.length ≤ 256) (hx : x.length ≤ 256) : ∀ (d j k : Nat) (a : Row), j + d = a.length → a.length = w.length → F + 100 + d < k → shardlaw1_TextTables.l2 k rows rows w a x w x (j : Int) = some true
  | 0, j, k, a, hj, ha, hk => by
    obtain ⟨k, rfl⟩ : ∃ x, k = x + 1 := ⟨k - 1, by omega⟩
    simp only [shardlaw1_TextTables.l2]
    rw [if_neg (by omega)]
    exact l3 rows hn hr F hF w x hw hx 40 0 k a (by omega) (by omega) (by omega)
  | d + 1, j, k, a, hj, ha, hk => by
    obtain ⟨k, rfl⟩ : ∃ x, k = x + 1 := ⟨k - 1, by omega⟩
    simp only [shardlaw1_TextTables.l2]
    rw [if_pos (by omega), if_pos (by omega), wrap64_id (by omega) (by omega), show (j : Int) + 1 = ((j + 1 : Nat) : Int) by omega]
    exact l2 w x hw hx d (j + 1) k _ (by rw [List.length_set]; omega) (by rw [List.length_set]; exact ha) (by omega)
abbrev two : List Row := [[(⟨#[97]⟩ : ByteArray), (⟨#[98]⟩ : ByteArray)], [(⟨#[99, 99]⟩ : ByteArray)]]
omit hn hr hF in
theorem two_size : ∀ r ∈ two, ∀ c ∈ r, c.size ≤ 1048576 := by
  intro r h c hc
  simp only [two, List.mem_cons, List.not_mem_nil, or_false] at h
  rcases h with rfl | rfl
  · simp only [List.mem_cons, List.not_mem_nil, or_false] at hc
    rcases hc with rfl | rfl <;> decide
  · simp only [List.mem_cons, List.not_mem_nil, or_false] at hc
    subst hc; decide
variable (hc : ∀ r ∈ rows, ∀ c ∈ r, c.size ≤ 1048576)
include hc
theorem tail (k : Nat) (hk : F + 1000000 < k) : shardlaw1_TextTables.j2 k rows rows (ans rows).1 (ans rows).1 false = some true := by
  obtain ⟨k, rfl⟩ : ∃ x, k = x + 2 := ⟨k - 2, by omega⟩
  have t := TT.table rows 1048576 (by omega) hc (k + 1) (by omega)
  have u := TT.table two 1048576 (by omega) two_size (k + 1) (by omega)
  have l := ans_len rows
  have l' := ans_len two
  simp only [shardlaw1_TextTables.j2, Bool.false_eq_true, if_false]
  rw [u.1, t.1, u.2]
  simp only [Option.bind_some]
  rw [same _ (by omega) _ (by omega), same _ (by omega) _ (by omega)]
  simp only [Option.bind_some, if_true, shardlaw1_TextTables.j3]
  exact l2 rows hn hr F hF _ _ l l' _ 0 k _ (Nat.zero_add _) rfl (by omega)
omit hc in
theorem l1 (i : Nat) (hi : i < rows.length) (hn' : ∀ k, F ≤ k → shardlaw1_TextTables.l0 k rows (rows.take (i + 1)) ((i + 1 : Nat) : Int) = some true) :
    ∀ (d j k : Nat), j + d = (rows[i]).length → F + d < k → shardlaw1_TextTables.l1 k rows (rows.take i) (i : Int) ((rows[i]).take j) (j : Int) = some true
  | 0, j, k, hj, hk => by
    obtain ⟨k, rfl⟩ : ∃ x, k = x + 1 := ⟨k - 1, by omega⟩
    simp only [shardlaw1_TextTables.l1, TT.rdL4_nat rows i hi]
    rw [if_pos (by omega), if_pos (by omega), if_neg (by omega), if_pos (by rw [List.length_take]; omega), wrap64_id (by omega) (by omega), show (i : Int) + 1 = ((i + 1 : Nat) : Int) by omega, List.take_of_length_le (show rows[i].length ≤ j by omega)]
    have e : rows.take i ++ [rows[i]] = rows.take (i + 1) := by rw [List.take_add_one, List.getElem?_eq_getElem hi]; rfl
    rw [e]
    exact hn' k (by omega)
  | d + 1, j, k, hj, hk => by
    obtain ⟨k, rfl⟩ : ∃ x, k = x + 1 := ⟨k - 1, by omega⟩
    have hjl : j < rows[i].length := by omega
    have h1 := hr _ (List.getElem_mem hi)
    simp only [shardlaw1_TextTables.l1, TT.rdL4_nat rows i hi]
    rw [if_pos (by omega), if_pos (by omega), if_pos (by omega), if_pos (by omega), if_pos (by rw [List.length_take]; omega), wrap64_id (by omega) (by omega), show (j : Int) + 1 = ((j + 1 : Nat) : Int) by omega, TT.rdOf_nat _ j hjl]
    have e : rows[i].take j ++ [rows[i][j]] = rows[i].take (j + 1) := by rw [List.take_add_one, List.getElem?_eq_getElem hjl]; rfl
    rw [e]
    exact l1 i hi hn' d (j + 1) k (by omega) (by omega)
theorem l0 : ∀ (d i k : Nat), i + d = rows.length → F + 1000001 + d * 1100000 < k → shardlaw1_TextTables.l0 k rows (rows.take i) (i : Int) = some true := by
  intro d
  induction d with
  | zero =>
    intro i k hi hk
    obtain ⟨k, rfl⟩ : ∃ x, k = x + 1 := ⟨k - 1, by omega⟩
    have t := TT.table rows 1048576 (by omega) hc k (by omega)
    have l := ans_len rows
    rw [List.take_of_length_le (by omega)]
    simp only [shardlaw1_TextTables.l0]
    rw [if_neg (by omega), t.1, t.2]
    simp only [Option.bind_some]
    rw [same _ (by omega) _ (by omega)]
    simp only [Option.bind_some, if_true, shardlaw1_num.f]
    rw [show ((ans rows).2.2 != (ans rows).2.2) = false from bne_self_eq_false _]
    exact tail rows hn hr F hF hc k (by omega)
  | succ d ih =>
    intro i k hi hk
    obtain ⟨k, rfl⟩ : ∃ x, k = x + 1 := ⟨k - 1, by omega⟩
    have hil : i < rows.length := by omega
    have h1 := hr _ (List.getElem_mem hil)
    simp only [shardlaw1_TextTables.l0]
    rw [if_pos (by omega)]
    obtain ⟨G, hG⟩ : ∃ G, G = F + 1000001 + d * 1100000 + 1 := ⟨_, rfl⟩
    have := l1 rows hn hr G (by omega) i hil (fun k' hk' => ih (i + 1) k' (by clear hG hk hk' ih; omega) (by clear ih; rw [hG] at hk'; exact Nat.lt_of_succ_le hk')) rows[i].length 0 k (Nat.zero_add _) (by clear ih; rw [hG]; omega)
    rw [List.take_zero] at this
    exact this
end
end TL
theorem TextTables (l : List (List ByteArray)) (hz : (l.map fun x => (x.map fun y => y.size + 1).sum + 1).sum + 1 ≤ 1048576) (hw : ∀ x ∈ l, ∀ y ∈ x, True) : ∃ k, shardlaw1_TextTables.f k l = some true := by
  have h1 := reads.length_le l (fun x => (x.map fun y => y.size + 1).sum + 1) (fun x => by omega)
  have h2 : ∀ x ∈ l, (x.map fun y => y.size + 1).sum ≤ 1048576 := fun x hx => by
    have := reads.mem_le l (fun x => (x.map fun y => y.size + 1).sum + 1) x hx
    omega
  have h3 : ∀ x ∈ l, x.length ≤ 1048576 := fun x hx => by
    have := reads.length_le x (fun y => y.size + 1) (fun y => by omega)
    have := h2 x hx
    omega
  have h4 : ∀ x ∈ l, ∀ c ∈ x, c.size ≤ 1048576 := fun x hx c hcx => by
    have := reads.mem_le x (fun y => y.size + 1) c hcx
    have := h2 x hx
    omega
  obtain ⟨F, hF⟩ : ∃ F, 4000000 ≤ F := ⟨_, Nat.le_refl _⟩
  obtain ⟨K, hK⟩ : ∃ K, F + 1000001 + l.length * 1100000 < K := ⟨_, Nat.lt_succ_self _⟩
  have := TL.l0 l (by omega) h3 F hF h4 l.length 0 K (Nat.zero_add _) hK
  rw [List.take_zero] at this
  refine ⟨K, ?_⟩
  unfold shardlaw1_TextTables.f
  exact this
end Go.Proofs.Ytghhpgpcbnkamaa.Pure
