/- The folded name, the place and the error are the document's. -/
import Derived.Test.YtplhcnlpfoiieaaDoorPureText7
import Derived.Test.YtplhcnlpfoiieaaDoorPx73
set_option linter.unusedVariables false
set_option linter.unusedSimpArgs false
namespace Go.Proofs.YtplhcnlpfoiieaaDoor.Pure
open Go.RowKit Go.Proofs.YtplhcnlpfoiieaaDoor.P Go.Proofs.YtplhcnlpfoiieaaDoorW.PrintWords Go.Proofs.YtplhcnlpfoiieaaDoorW.PrintLast Go.Proofs.YtplhcnlpfoiieaaDoor.PL

namespace TN
open T7
theorem rd72 (s : ByteArray) (L : List Nat) (j : Nat) (h : j < L.length) : rd_T62 (L.map (T0.mkR s)) (j : Int) = ⟨(U.rn s L[j] : Int), (L[j] : Int), (U.stp s L[j] : Int), decide (U.usz s L[j] = 0)⟩ := by simp [rd_T62, h, T0.mkR]
def g (b : Bool) (r : Int) : Int := if b = true then wrap64 (r + 32) else if r = 962 then 963 else r
theorem fold2 (k : Nat) (r : Int) (b : Bool) : shardref1_fold.j2 (k + 1) r b = some (g b r) := by
  simp only [shardref1_fold.j2, g]
  repeat' split
  all_goals rfl
theorem fold1 (k : Nat) (r : Int) (b c : Bool) : shardref1_fold.j1 (k + 2) r b c = some (g (b || c) r) := by
  simp only [shardref1_fold.j1, fold2]
  cases b <;> rfl
theorem fold0 (k : Nat) (r : Int) (b : Bool) : shardref1_fold.j0 (k + 3) r b = some (g (b || decide ((913 ≤ r ∧ r ≤ 937 ∧ r ≠ 930) ∨ (1040 ≤ r ∧ r ≤ 1071))) r) := by
  simp only [shardref1_fold.j0, fold1]
  repeat' split
  all_goals (congr 3; first | (rw [decide_eq_decide]; omega) | (rw [decide_eq_true (by omega)]) | (rw [decide_eq_false (by omega)]))
theorem fold (k : Nat) (r : Int) (hk : 3 < k) (h0 : 0 ≤ r) : shardref1_fold.f k r = some (text_small.v r) := by
  obtain ⟨k, rfl⟩ : ∃ x, k = x + 3 := ⟨k - 3, by omega⟩
  unfold shardref1_fold.f
  simp only [fold0]
  have e : (r != 215) = decide (r ≠ 215) := by rw [Bool.eq_iff_iff]; simp
  have key : ∀ b : Bool, (b = decide ((65 ≤ r ∧ r ≤ 90) ∨ (192 ≤ r ∧ r ≤ 222 ∧ r ≠ 215))) → g (b || decide ((913 ≤ r ∧ r ≤ 937 ∧ r ≠ 930) ∨ (1040 ≤ r ∧ r ≤ 1071))) r = text_small.v r := by
    intro b hb
    rw [small_val r h0, hb, g]
    by_cases c : (65 ≤ r ∧ r ≤ 90) ∨ (192 ≤ r ∧ r ≤ 214) ∨ (216 ≤ r ∧ r ≤ 222) ∨ (913 ≤ r ∧ r ≤ 929) ∨ (931 ≤ r ∧ r ≤ 937) ∨ (1040 ≤ r ∧ r ≤ 1071)
    · rw [if_pos (by rw [Bool.or_eq_true, decide_eq_true_eq, decide_eq_true_eq]; omega), if_neg (show ¬ r = 962 by omega), if_pos c, wrap64_id (by omega) (by omega)]
    · rw [if_neg (by rw [Bool.or_eq_true, decide_eq_true_eq, decide_eq_true_eq]; omega), if_neg c]
  rw [e]
  repeat' split
  all_goals (congr 1; apply key; first | (rw [decide_eq_decide]; omega) | exact (decide_eq_true (by omega)).symm | exact (decide_eq_false (by omega)).symm)
theorem rName_l (s : ByteArray) (hs : s.size ≤ 100000000) (L : List Nat) (hL : L.length ≤ s.size) (hm : ∀ i ∈ L, i < s.size) : ∀ (d k j : Nat) (acc : List Int), j + d = L.length → 4 * d + 40 < k → acc.length ≤ 4 * j → j ≤ 24 →
    shardref1_Name.l0 k (L.map (T0.mkR s)) acc (j : Int) = some (spec s (L.drop j) j acc)
  | 0, k, j, acc, hd, hk, ha, hj => by
    obtain ⟨k, rfl⟩ : ∃ x, k = x + 1 := ⟨k - 1, by omega⟩
    simp only [shardref1_Name.l0]
    rw [if_neg (by rw [List.length_map]; omega), List.drop_eq_nil_of_le (by omega), spec]
  | d + 1, k, j, acc, hd, hk, ha, hj => by
    obtain ⟨k, rfl⟩ : ∃ x, k = x + 4 := ⟨k - 4, by omega⟩
    have hjl : j < L.length := by omega
    have hi := hm L[j] (List.getElem_mem hjl)
    have ih := fun acc => rName_l s hs L hL hm d k (j + 1) acc (by omega) (by omega)
    rw [shardref1_Name.l0, rd72 s L j hjl, List.drop_eq_getElem_cons hjl, spec]
    simp only []
    generalize L[j] = i at *
    rw [if_pos (by rw [List.length_map]; omega), if_pos (by omega)]
    by_cases hu : U.usz s i = 0
    · rw [if_pos (decide_eq_true hu), if_pos hu]
    · rw [if_neg (by rw [decide_eq_false hu]; decide), if_neg hu]
      have er : U.rn s i = U.uval s i (U.usz s i) := by rw [U.rn, if_neg hu]
      rw [er]
      have hg := (T3.enc_at s i hi hu).1
      generalize U.uval s i (U.usz s i) = r at *
      clear er
      rw [show shardref1_letter.f (r : Int) = some (ltr r) from rfl, Option.bind_some]
      have key : ∀ F : Bool → Option (ByteArray × Int × Int), (if (j : Int) > 0 then (if (r : Int) ≥ 48 then (if (r : Int) ≤ 57 then F true else (if (r : Int) = 45 then F true else (if (r : Int) = 95 then F true else F ((r : Int) == 46)))) else (if (r : Int) = 45 then F true else (if (r : Int) = 95 then F true else F ((r : Int) == 46)))) else F false) = F (decide (0 < j) && inn r) := by
        intro F
        by_cases h0 : j = 0
        · rw [if_neg (by omega), decide_eq_false (by omega), Bool.false_and]
        · rw [if_pos (by omega), decide_eq_true (by omega), Bool.true_and]
          have e : ((r : Int) == 46) = decide ((r : Int) = 46) := by rw [Bool.eq_iff_iff]; simp
          rw [e]
          unfold inn
          repeat' split
          all_goals (congr 1; first | (rw [decide_eq_true (by omega)]) | (rw [eq_comm, decide_eq_true (by omega)]) | (rw [decide_eq_decide]; omega))
      rw [key fun b => shardref1_Name.j1 (k + 3) (L.map (T0.mkR s)) acc (j : Int) (ltr r) b (r : Int) (i : Int) (U.stp s i : Int) (decide (U.usz s i = 0))]
      simp only [shardref1_Name.j1, shardref1_Name.j2, shardref1_Name.j3]
      have el := enc_len _ (small_good r hg)
      have good : (shardref1_fold.f k (r : Int)).bind (fun t383 => ((shardref1_Encode.f k t383).bind fun bt384 => (if acc.length + bt384.1.size < 140737488355328 then (shardref1_Name.l0 k (L.map (T0.mkR s)) (acc ++ bytesOf bt384.1) (wrap64 ((j : Int) + 1))) else (none)))) = shardref1_Name.l0 k (L.map (T0.mkR s)) (acc ++ bytesOf (T1.enc (text_small.v r))) ((j + 1 : Nat) : Int) := by
        have hg2 := small_good r hg
        have hgd := hg2
        unfold T1.good at hgd
        rw [bytesOf_length] at el
        rw [fold k _ (by omega) (by omega), Option.bind_some, T1.rEncode k _ (by omega) (by omega), if_pos hg2, Option.bind_some, wrap64_id (by omega) (by omega), if_pos (by simp only []; omega)]
        rfl
      rw [good]
      unfold ok
      generalize (decide (0 < j) && inn (r : Int)) = b
      by_cases h24 : j = 24
      · have e : (decide (j < 24) && (ltr r || b)) = false := by rw [decide_eq_false (by omega), Bool.false_and]
        rw [if_pos e, decide_eq_true (show (j : Int) ≥ 24 by omega)]
        cases b <;> cases ltr r <;> rfl
      · have ih := ih (acc ++ bytesOf (T1.enc (text_small.v r))) (by rw [List.length_append]; omega) (by omega)
        rw [ih, decide_eq_true (show j < 24 by omega), Bool.true_and, decide_eq_false (show ¬ (j : Int) ≥ 24 by omega)]
        cases b <;> cases ltr r <;> rfl
theorem rName (s : ByteArray) (hs : s.size ≤ 100000000) (k : Nat) (hk : 4 * s.size + 40 < k) : shardref1_Name.f k s = some (name s) := by
  have hl := U.cuts_len s s.size 0
  unfold shardref1_Name.f name
  rw [T0.pieces s (by omega) k (by omega), Option.bind_some]
  by_cases h0 : s.size = 0
  · rw [if_pos (by rw [List.length_map]; omega), if_pos h0]
  · have hpos : 0 < (U.cuts s s.size 0).length := by
      obtain ⟨m, hm⟩ : ∃ m, s.size = m + 1 := ⟨s.size - 1, by omega⟩
      rw [hm, U.cuts, if_pos (by omega), List.length_cons]; omega
    rw [if_neg (by rw [List.length_map]; omega), if_neg h0]
    have := rName_l s hs (U.cuts s s.size 0) (by omega) (T0.cuts_lt s s.size 0) _ k 0 [] (by rw [Nat.zero_add]) (by omega) (by simp) (by omega)
    simpa using this
/-- Both strings, one behind the other. -/
theorem two (l : List ByteArray) (hl : l.length ≤ 2) (K : Nat) (hK : ∀ s ∈ l, s.size ≤ 100000000 ∧ 4 * s.size + 40 < K) (d : Nat) : ∀ (k i : Nat), i ≤ l.length → l.length - i = d → K + d + 1 ≤ k → shardlaw1_TextNames.l0 k l i = some true := by
  induction d with
  | zero =>
    intro k i hi hd hk
    obtain ⟨k, rfl⟩ : ∃ m, k = m + 1 := ⟨k - 1, by omega⟩
    simp only [shardlaw1_TextNames.l0]
    rw [if_neg (by omega)]
  | succ d ih =>
    intro k i hi hd hk
    obtain ⟨k, rfl⟩ : ∃ m, k = m + 1 := ⟨k - 1, by omega⟩
    simp only [shardlaw1_TextNames.l0]
    rw [if_pos (by omega), if_pos (by omega)]
    have hm : rdOf ByteArray.empty l (i : Int) ∈ l := by
      have hlt : i < l.length := by omega
      have : rdOf ByteArray.empty l (i : Int) = l[i] := by simp [rdOf, hlt]
      rw [this]; exact List.getElem_mem hlt
    obtain ⟨h1, h2⟩ := hK _ hm
    rw [tName _ h1 k (by omega), rName _ h1 k (by omega)]
    simp only [Option.bind_some, if_true, shardlaw1_num.f]
    rw [wrap64_id (by omega) (by omega)]
    exact ih k (i + 1) (by omega) (by omega) (by omega)
end TN
theorem TextNames (s : ByteArray) (hs : s.size ≤ 1048576) : ∃ k, shardlaw1_TextNames.f k s = some true := by
  refine ⟨4 * s.size + 60, ?_⟩
  unfold shardlaw1_TextNames.f
  rw [if_pos (by omega)]
  refine TN.two [s, (⟨#[110]⟩ : ByteArray) ++ s] (by simp) (4 * s.size + 45) ?_ 2 _ 0 (by simp) (by simp) (by omega)
  intro x hx
  rcases List.mem_cons.1 hx with rfl | hx
  · omega
  · rw [List.mem_singleton.1 hx, ByteArray.size_append, show (⟨#[110]⟩ : ByteArray).size = 1 from rfl]; omega
end Go.Proofs.YtplhcnlpfoiieaaDoor.Pure
