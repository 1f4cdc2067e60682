/- The words of every line, the place and the error are the document's; a list that its holder spoils spoils no later answer. -/
import Derived.Test.YtplhcnlpfoiieaaDoorPureTextW
import Derived.Test.YtplhcnlpfoiieaaDoorPx21
set_option linter.unusedVariables false
set_option linter.unusedSimpArgs false
namespace Go.Proofs.YtplhcnlpfoiieaaDoor.Pure
open Go.RowKit Go.Proofs.YtplhcnlpfoiieaaDoor.P Go.Proofs.YtplhcnlpfoiieaaDoorW.PrintWords Go.Proofs.YtplhcnlpfoiieaaDoorW.PrintLast Go.Proofs.YtplhcnlpfoiieaaDoor.PL

namespace TWL
open TW (conv)
theorem same_l (W : List (S45)) (hW : W.length ≤ 1000000) : ∀ (d k j : Nat), j + d = W.length → d < k → shardlaw1_sameWords.l0 k W (W.map conv) (j : Int) = some true
  | 0, k, j, hd, hk => by
    obtain ⟨k, rfl⟩ : ∃ x, k = x + 1 := ⟨k - 1, by omega⟩
    simp only [shardlaw1_sameWords.l0]
    rw [if_neg (by omega)]
  | d + 1, k, j, hd, hk => by
    obtain ⟨k, rfl⟩ : ∃ x, k = x + 1 := ⟨k - 1, by omega⟩
    have hj : j < W.length := by omega
    have e1 : rd_T45 W (j : Int) = W[j] := by simp [rd_T45, hj]
    have e2 : rd_T75 (W.map conv) (j : Int) = ⟨W[j].f0, W[j].f1, W[j].f2⟩ := by simp [rd_T75, hj, conv]
    simp only [shardlaw1_sameWords.l0]
    rw [e1, e2, if_pos (by omega), if_pos (by omega), if_pos (by rw [List.length_map]; omega), if_pos rfl, if_neg (by simp), if_pos rfl, wrap64_id (by omega) (by omega)]
    exact same_l W hW d k (j + 1) (by omega) (by omega)
theorem same (W : List (S45)) (hW : W.length ≤ 1000000) (k : Nat) (hk : W.length < k) : shardlaw1_sameWords.f k W (W.map conv) = some true := by
  unfold shardlaw1_sameWords.f
  rw [if_pos (by rw [List.length_map])]
  exact same_l W hW W.length k 0 (by omega) hk
section
variable (s : ByteArray) (W X : List (S45)) (a e : Int) (hW : W.length ≤ 64) (hX : X.length ≤ 64) (hs : ∀ k, 100000 < k → text_Words.f k s = some (W, a, e))
include hW hX hs
theorem l2 (A : List (S45)) (hA : A.length = W.length + 40) : ∀ (d k j : Nat) (B : List (S45)), j + d = B.length → B.length ≤ 64 → d + 100010 < k → shardlaw1_TextWords.l2 k s (W.map conv) A true X B (X.map conv) (j : Int) = some true
  | 0, k, j, B, hd, hB, hk => by
    obtain ⟨k, rfl⟩ : ∃ x, k = x + 1 := ⟨k - 1, by omega⟩
    simp only [shardlaw1_TextWords.l2]
    rw [if_neg (by omega), hs k (by omega), Option.bind_some, if_pos trivial, same W (by omega) k (by omega), Option.bind_some, if_pos rfl, same X (by omega) k (by omega), Option.bind_some, if_pos rfl, List.length_map, wrap64_id (by omega) (by omega)]
    congr 1
    rw [beq_iff_eq]
    omega
  | d + 1, k, j, B, hd, hB, hk => by
    obtain ⟨k, rfl⟩ : ∃ x, k = x + 1 := ⟨k - 1, by omega⟩
    simp only [shardlaw1_TextWords.l2]
    rw [if_pos (by omega), if_pos (by omega), wrap64_id (by omega) (by omega)]
    exact l2 A hA d k (j + 1) _ (by rw [List.length_set]; omega) (by rw [List.length_set]; omega) (by omega)
theorem l1 : ∀ (d k j : Nat) (A : List (S45)), j + d = 40 → A.length = W.length + j → d + 100100 < k → shardlaw1_TextWords.l1 k s (W.map conv) A X W (X.map conv) (j : Int) = some true
  | 0, k, j, A, hd, hA, hk => by
    obtain ⟨k, rfl⟩ : ∃ x, k = x + 2 := ⟨k - 2, by omega⟩
    simp only [shardlaw1_TextWords.l1, shardlaw1_TextWords.j4]
    rw [if_neg (by omega), same W (by omega) _ (by omega), Option.bind_some, if_pos rfl, same X (by omega) _ (by omega), Option.bind_some]
    exact l2 s W X a e hW hX hs A (by omega) W.length k 0 W (by omega) (by omega) (by omega)
  | d + 1, k, j, A, hd, hA, hk => by
    obtain ⟨k, rfl⟩ : ∃ x, k = x + 1 := ⟨k - 1, by omega⟩
    simp only [shardlaw1_TextWords.l1]
    rw [if_pos (by omega), if_pos (by omega), wrap64_id (by omega) (by omega)]
    exact l1 d k (j + 1) _ (by omega) (by rw [List.length_append]; simp; omega) (by omega)
theorem l0 : ∀ (d k j : Nat) (A : List (S45)), j + d = A.length → A.length = W.length → d + 100200 < k → shardlaw1_TextWords.l0 k s (W.map conv) A X W (X.map conv) (j : Int) = some true
  | 0, k, j, A, hd, hA, hk => by
    obtain ⟨k, rfl⟩ : ∃ x, k = x + 1 := ⟨k - 1, by omega⟩
    simp only [shardlaw1_TextWords.l0]
    rw [if_neg (by omega)]
    exact l1 s W X a e hW hX hs 40 k 0 A (by omega) (by omega) (by omega)
  | d + 1, k, j, A, hd, hA, hk => by
    obtain ⟨k, rfl⟩ : ∃ x, k = x + 1 := ⟨k - 1, by omega⟩
    simp only [shardlaw1_TextWords.l0]
    rw [if_pos (by omega), if_pos (by omega), wrap64_id (by omega) (by omega)]
    exact l0 d k (j + 1) _ (by rw [List.length_set]; omega) (by rw [List.length_set]; omega) (by omega)
end
end TWL
theorem TextWords (s : ByteArray) (hs : s.size ≤ 1048576) : ∃ k, shardlaw1_TextWords.f k s = some true := by
  obtain ⟨W, a, e, h1, h2, h3, -⟩ := TW.words s
  obtain ⟨X, a2, e2, i1, i2, i3, -⟩ := TW.words ((⟨#[111, 116, 104, 101, 114, 32]⟩ : ByteArray) ++ s)
  refine ⟨200000 + 2, ?_⟩
  unfold shardlaw1_TextWords.f
  rw [h2 _ (by omega), Option.bind_some, h1 _ (by omega), Option.bind_some]
  simp only []
  rw [TWL.same W (by omega) _ (by omega), Option.bind_some, if_pos rfl, if_pos trivial, shardlaw1_num.f, Option.bind_some, bne_self_eq_false]
  simp only [shardlaw1_TextWords.j0, shardlaw1_TextWords.j1]
  rw [if_neg (by decide), if_pos (by omega), i1 _ (by omega), Option.bind_some, h1 _ (by omega), Option.bind_some, i2 _ (by omega), Option.bind_some]
  simp only []
  rw [TWL.same W (by omega) _ (by omega), Option.bind_some, if_pos rfl, Option.bind_some, if_pos rfl, TWL.same X (by omega) _ (by omega), Option.bind_some, if_pos rfl]
  exact TWL.l0 s W X a e h3 i3 h1 W.length 200000 0 W (by omega) rfl (by omega)
end Go.Proofs.YtplhcnlpfoiieaaDoor.Pure
