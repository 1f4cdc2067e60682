/- What is read of every text, the place and the error are the document's. -/
import Derived.Test.YtplhcnlpfoiieaaDoorPureTextV
import Derived.Test.YtplhcnlpfoiieaaDoorPureTextQ
import Derived.Test.YtplhcnlpfoiieaaDoorPx32
import Derived.Test.YtplhcnlpfoiieaaDoorPx36
import Derived.Test.YtplhcnlpfoiieaaDoorPx37
set_option linter.unusedVariables false
set_option linter.unusedSimpArgs false
namespace Go.Proofs.YtplhcnlpfoiieaaDoor.Pure
open Go.RowKit Go.Proofs.YtplhcnlpfoiieaaDoor.P Go.Proofs.YtplhcnlpfoiieaaDoorW.PrintWords Go.Proofs.YtplhcnlpfoiieaaDoorW.PrintLast Go.Proofs.YtplhcnlpfoiieaaDoor.PL

namespace TV
open T1 (good enc hid)
open TU
theorem unquote (s : ByteArray) (hs : s.size ≤ 20000000) (k : Nat) (hk : s.size + 120 < k) : ∃ v, text_Unquote.f k s = some v ∧ shardref1_Unquote.f k s = some v := by
  have hL := U.cuts_len s s.size 0
  have hR := reach0 s
  have e := atv_eq s 0 34 (by decide) (by decide)
  have hat : shardref1_at.f ((U.cuts s s.size 0).map (T0.mkR s)) 0 = some (atv s 0) := at_ hR
  unfold text_Unquote.f shardref1_Unquote.f
  rw [T0.pieces s (by omega) k (by omega), Option.bind_some, hat, Option.bind_some]
  by_cases c : D s 0 = 34
  · obtain ⟨b, q, i, er, h1, h2⟩ := quoted s _ hs (by omega) k 0 0 hR c (by omega) (by omega)
    have h1' : text_unquoted.f k s 0 = some (b, (q : Int), er) := h1
    rw [h1', Option.bind_some, if_pos (e.2 c)]
    simp only []
    rcases h2 with ⟨rfl, g2, g3, g4, g5⟩ | ⟨g1, g2, g3⟩
    · have g2' : shardref1_Quoted.f k s ((U.cuts s s.size 0).map (T0.mkR s)) 0 = some (b, (i : Int), 0, 0) := g2
      rw [g2', Option.bind_some, if_pos rfl]
      simp only []
      rw [if_pos trivial]
      by_cases cq : q < s.size
      · obtain ⟨_, n1, n2⟩ := g3.next cq
        rw [if_pos (by omega), if_pos (by rw [List.length_map]; omega), if_pos (by omega), rd n2]
        exact ⟨_, rfl, rfl⟩
      · have := g3.end_ cq
        rw [if_neg (by omega), if_neg (by rw [List.length_map]; omega)]
        exact ⟨_, rfl, rfl⟩
    · have g3' : shardref1_Quoted.f k s ((U.cuts s s.size 0).map (T0.mkR s)) 0 = some (⟨#[]⟩, 0, (q : Int), er) := g3
      rw [g3', Option.bind_some]
      simp only []
      rw [if_neg g1, if_neg g1]
      exact ⟨_, rfl, rfl⟩
  · obtain ⟨k, rfl⟩ : ∃ x, k = x + 1 := ⟨k - 1, by omega⟩
    rw [if_neg (fun h => c (e.1 h))]
    have et : text_unquoted.f (k + 1) s 0 = some ((⟨#[]⟩ : ByteArray), 0, 11) := by
      unfold text_unquoted.f
      by_cases c0 : 0 < s.size
      · have hb : bt s 0 = D s 0 := by rw [D_in s 0 c0]; exact T0.bt_B s 0
        rw [if_neg (by omega), if_pos (by omega), if_pos (by omega), hb]
        simp only [text_unquoted.j0]
        rw [if_pos (by rw [bne_iff_ne]; exact c)]
      · rw [if_pos (by omega)]
        rfl
    rw [et, Option.bind_some]
    exact ⟨_, rfl, rfl⟩
end TV
namespace TUQ
theorem l0 (l : List ByteArray) (hl : l.length ≤ 10) (hs : ∀ x ∈ l, x.size ≤ 20000000) : ∀ (d k j : Nat), j + d = l.length → d + 20000200 < k → shardlaw1_TextUnquotes.l0 k l (j : Int) = some true
  | 0, k, j, hd, hk => by
    obtain ⟨k, rfl⟩ : ∃ x, k = x + 1 := ⟨k - 1, by omega⟩
    simp only [shardlaw1_TextUnquotes.l0]
    rw [if_neg (by omega)]
  | d + 1, k, j, hd, hk => by
    obtain ⟨k, rfl⟩ : ∃ x, k = x + 1 := ⟨k - 1, by omega⟩
    have hjl : j < l.length := by omega
    have er : rdOf ByteArray.empty l (j : Int) = l[j] := by simp [rdOf, hjl]
    have hz := hs _ (List.getElem_mem hjl)
    obtain ⟨v, h1, h2⟩ := TV.unquote l[j] hz k (by omega)
    simp only [shardlaw1_TextUnquotes.l0]
    rw [er, if_pos (by omega), if_pos (by omega), h1, h2, Option.bind_some, Option.bind_some, if_pos rfl, if_pos rfl, shardlaw1_num.f, Option.bind_some, if_pos rfl, wrap64_id (by omega) (by omega)]
    exact l0 l hl hs d k (j + 1) (by omega) (by omega)
end TUQ
theorem TextUnquotes (s : ByteArray) (hs : s.size ≤ 1048576) : ∃ k, shardlaw1_TextUnquotes.f k s = some true := by
  have hq := TQ.quote_size s
  refine ⟨30000000, ?_⟩
  unfold shardlaw1_TextUnquotes.f
  rw [if_pos (by omega), if_pos (by omega), TQ.rQuote s hs _ (by omega), Option.bind_some]
  refine TUQ.l0 _ (by simp) (fun x hx => ?_) 4 _ 0 rfl (by omega)
  have e1 : (⟨#[34]⟩ : ByteArray).size = 1 := rfl
  simp only [List.mem_cons, List.not_mem_nil, or_false] at hx
  rcases hx with rfl | rfl | rfl | rfl
  · omega
  · rw [ByteArray.size_append, ByteArray.size_append]; omega
  · rw [ByteArray.size_append]; omega
  · omega
end Go.Proofs.YtplhcnlpfoiieaaDoor.Pure
