/- Plain facts shared by the statements of chapter 1: hidden runes. No program in sight. -/
import Derived.Test.YtghhpgpcbnkamaaPureText0
import Derived.Test.YtghhpgpcbnkamaaPx13
import Derived.Test.YtghhpgpcbnkamaaPx4
set_option linter.unusedVariables false
set_option linter.unusedSimpArgs false
namespace Go.Proofs.Ytghhpgpcbnkamaa.Pure
open Go.RowKit Go.Proofs.Ytghhpgpcbnkamaa.P Go.Proofs.YtghhpgpcbnkamaaW.PrintWords Go.Proofs.YtghhpgpcbnkamaaW.PrintLast Go.Proofs.Ytghhpgpcbnkamaa.PL

namespace T1
abbrev Sp := S105
/-- Is the number in one of the runs? -/
def anyIn (l : List Sp) (x : Int) : Bool := l.any fun s => decide (s.f0 ≤ x ∧ x ≤ s.f1)
theorem in_l (l : List Sp) (x : Int) (hp : l.Pairwise fun a b => a.f1 < b.f0) (ho : ∀ s ∈ l, s.f0 ≤ s.f1) (hlen : l.length < 1000000) : ∀ (d k lo hi : Nat), hi - lo ≤ d → d < k → lo ≤ hi → hi ≤ l.length →
    (∀ (i : Nat) (h : i < l.length), i < lo → (l[i]).f1 < x) → (∀ (i : Nat) (h : i < l.length), hi ≤ i → x < (l[i]).f0) → text_in.l0 k l x (lo : Int) (hi : Int) = some (anyIn l x)
  | d, 0, lo, hi, hd, hk, _, _, _, _ => by omega
  | d, k + 1, lo, hi, hd, hk, h1, h2, hl, hr => by
    simp only [text_in.l0]
    by_cases hlt : lo < hi
    · have emid : wrap64 (Int.tdiv (wrap64 ((lo : Int) + (hi : Int))) 2) = (((lo + hi) / 2 : Nat) : Int) := by
        rw [wrap64_id (x := (lo : Int) + (hi : Int)) (by omega) (by omega), Int.tdiv_eq_ediv_of_nonneg (by omega), wrap64_id (by omega) (by omega)]
        omega
      rw [if_pos (show (lo : Int) < (hi : Int) by omega), emid]
      generalize hm : (lo + hi) / 2 = m
      have hm1 : lo ≤ m := by omega
      have hm2 : m < hi := by omega
      have hml : m < l.length := by omega
      have er : rd_T105 l (m : Int) = l[m] := by simp [rd_T105, hml]
      rw [if_pos (show (0 : Int) ≤ (m : Int) by omega), if_pos (show (m : Int) < (l.length : Int) by omega), er]
      have hpw : ∀ (i j : Nat) (hi : i < l.length) (hj : j < l.length), i < j → (l[i]).f1 < (l[j]).f0 := fun i j hi hj hij => List.pairwise_iff_getElem.1 hp i j hi hj hij
      have hown := fun (i : Nat) (h : i < l.length) => ho l[i] (List.getElem_mem h)
      by_cases c1 : x < (l[m]).f0
      · rw [if_pos c1]
        refine in_l l x hp ho hlen (d - 1) k lo m (by omega) (by omega) hm1 (by omega) hl (fun i h hmi => ?_)
        by_cases e : i = m
        · subst e; exact c1
        · have := hpw m i hml h (by omega)
          have := hown m hml
          omega
      · rw [if_neg c1]
        by_cases c2 : x > (l[m]).f1
        · rw [if_pos c2, wrap64_id (by omega) (by omega), show (m : Int) + 1 = ((m + 1 : Nat) : Int) by omega]
          refine in_l l x hp ho hlen (d - 1) k (m + 1) hi (by omega) (by omega) (by omega) h2 (fun i h hmi => ?_) hr
          by_cases e : i = m
          · subst e; exact c2
          · have := hpw i m h hml (by omega)
            have := hown m hml
            omega
        · rw [if_neg c2]
          congr 1
          symm
          unfold anyIn
          rw [List.any_eq_true]
          exact ⟨l[m], List.getElem_mem hml, by simp; omega⟩
    · rw [if_neg (show ¬ (lo : Int) < (hi : Int) by omega)]
      congr 1
      symm
      unfold anyIn
      rw [List.any_eq_false]
      intro s hs
      obtain ⟨i, hi', rfl⟩ := List.mem_iff_getElem.1 hs
      by_cases c : i < lo
      · have := hl i hi' c; simp; omega
      · have := hr i hi' (by omega); simp; omega
theorem in_ (l : List Sp) (x : Int) (hp : l.Pairwise fun a b => a.f1 < b.f0) (ho : ∀ s ∈ l, s.f0 ≤ s.f1) (hlen : l.length < 1000000) (k : Nat) (hk : l.length < k) : text_in.f k l x = some (anyIn l x) :=
  in_l l x hp ho hlen l.length k 0 l.length (by omega) hk (by omega) (by omega) (fun i h h0 => by omega) (fun i h h0 => by omega)

/-- Hidden runes, by the document's list. -/
def hid (r : Int) : Bool := decide (r < 0 ∨ 1114111 < r ∨ r ≤ 31 ∨ (127 ≤ r ∧ r ≤ 160) ∨ r = 173 ∨ r = 1564 ∨ r = 5760 ∨ r = 6158 ∨ (8192 ≤ r ∧ r ≤ 8207) ∨ (8232 ≤ r ∧ r ≤ 8239) ∨ (8287 ≤ r ∧ r ≤ 8303) ∨ r = 12288 ∨ (55296 ≤ r ∧ r ≤ 63743) ∨ (64976 ≤ r ∧ r ≤ 65007) ∨ r = 65279 ∨ (65529 ≤ r ∧ r ≤ 65531) ∨ 917504 ≤ r ∨ 65534 ≤ r % 65536)
theorem and_fffe (n : Nat) (h : n < 2147483648) : (Go.bits .and .i32 (n : Int) 65534 == 65534) = decide (65534 ≤ n % 65536) := by
  have e := (bits_nat .i32 31 (by decide) (fun m h0 h1 => wraps_i32 m h0 h1) n 65534 (by simpa using h) (by decide)).1
  rw [show ((65534 : Nat) : Int) = 65534 from rfl] at e
  rw [e]
  have h1 : (n &&& 65534) / 2 = (n / 2) % 32768 := by
    rw [Nat.and_div_two, show 65534 / 2 = 2 ^ 15 - 1 from rfl, Nat.and_two_pow_sub_one_eq_mod]
  have h2 : (n &&& 65534) % 2 = 0 := by
    have := @Nat.and_mod_two_pow n 65534 1
    rw [show (2 : Nat) ^ 1 = 2 from rfl, show 65534 % 2 = 0 from rfl, Nat.and_zero] at this
    exact this
  rw [Bool.eq_iff_iff, beq_iff_eq, decide_eq_true_eq]
  omega
theorem isHidden (k : Nat) (r : Int) (hk : 20 < k) : text_isHidden.f k r = some (hid r) := by
  obtain ⟨k, rfl⟩ : ∃ m, k = m + 1 := ⟨k - 1, by omega⟩
  simp only [text_isHidden.f, text_isHidden.j0]
  by_cases h0 : r < 0
  · rw [if_pos h0, if_pos trivial]; exact congrArg some (decide_eq_true (by omega)).symm
  · rw [if_neg h0]
    by_cases h1 : r > 1114111
    · rw [if_pos h1, if_pos trivial]; exact congrArg some (decide_eq_true (by omega)).symm
    · rw [if_neg h1]
      obtain ⟨n, rfl⟩ := Int.eq_ofNat_of_zero_le (show 0 ≤ r by omega)
      rw [and_fffe n (by omega)]
      by_cases h2 : 65534 ≤ n % 65536
      · rw [if_pos (decide_eq_true h2)]; exact congrArg some (decide_eq_true (by omega)).symm
      · rw [if_neg (by rw [decide_eq_false h2]; simp)]
        simp only [text_hidden.f, Option.bind_some]
        rw [in_ _ _ (by decide) (by decide) (by decide) k (by simp; omega)]
        simp only [Option.bind_some]
        congr 1
        simp only [anyIn, hid, List.any_cons, List.any_nil]
        rw [Bool.eq_iff_iff]
        simp only [Bool.or_eq_true, decide_eq_true_eq, Bool.false_eq_true, or_false]
        omega
theorem some_b {a : Option Bool} {p q : Bool} (h : a = some p) (e : p = q) : a = some q := by rw [h, e]
theorem Hid2 (k : Nat) (r : Int) (b : Bool) (hk : 0 < k) (h0 : 0 ≤ r) : shardref1_Hidden.j2 k r b = some (b || decide (r = 65279 ∨ (65529 ≤ r ∧ r ≤ 65531) ∨ 917504 ≤ r ∨ 65534 ≤ r % 65536)) := by
  obtain ⟨k, rfl⟩ : ∃ m, k = m + 1 := ⟨k - 1, by omega⟩
  simp only [shardref1_Hidden.j2, Int.tmod_eq_emod_of_nonneg h0, ge_iff_le]
  cases b
  · simp only [Bool.false_eq_true, if_false, Bool.false_or]
    repeat' split
    all_goals (congr 1; symm; first | exact decide_eq_true (by omega) | (rw [decide_eq_decide]; omega))
  · simp
theorem Hid1 (k : Nat) (r : Int) (b : Bool) (hk : 1 < k) (h0 : 0 ≤ r) : shardref1_Hidden.j1 k r b = some (b || decide ((8287 ≤ r ∧ r ≤ 8303) ∨ r = 12288 ∨ (55296 ≤ r ∧ r ≤ 63743) ∨ (64976 ≤ r ∧ r ≤ 65007) ∨ r = 65279 ∨ (65529 ≤ r ∧ r ≤ 65531) ∨ 917504 ≤ r ∨ 65534 ≤ r % 65536)) := by
  obtain ⟨k, rfl⟩ : ∃ m, k = m + 1 := ⟨k - 1, by omega⟩
  simp only [shardref1_Hidden.j1, ge_iff_le, Hid2 k r _ (by omega) h0]
  cases b
  · simp only [Bool.false_eq_true, if_false, Bool.false_or, Bool.true_or]
    repeat' split
    all_goals (congr 1; rw [Bool.eq_iff_iff]; simp only [Bool.or_eq_true, decide_eq_true_eq, true_or, true_iff]; omega)
  · simp
theorem Hid0 (k : Nat) (r : Int) (b : Bool) (hk : 2 < k) (h0 : 0 ≤ r) : shardref1_Hidden.j0 k r b = some (b || decide (r = 5760 ∨ r = 6158 ∨ (8192 ≤ r ∧ r ≤ 8207) ∨ (8232 ≤ r ∧ r ≤ 8239) ∨ (8287 ≤ r ∧ r ≤ 8303) ∨ r = 12288 ∨ (55296 ≤ r ∧ r ≤ 63743) ∨ (64976 ≤ r ∧ r ≤ 65007) ∨ r = 65279 ∨ (65529 ≤ r ∧ r ≤ 65531) ∨ 917504 ≤ r ∨ 65534 ≤ r % 65536)) := by
  obtain ⟨k, rfl⟩ : ∃ m, k = m + 1 := ⟨k - 1, by omega⟩
  simp only [shardref1_Hidden.j0, ge_iff_le, Hid1 k r _ (by omega) h0]
  cases b
  · simp only [Bool.false_eq_true, if_false, Bool.false_or, Bool.true_or]
    repeat' split
    all_goals (congr 1; rw [Bool.eq_iff_iff]; simp only [Bool.or_eq_true, decide_eq_true_eq, true_or, true_iff]; omega)
  · simp
theorem Hidden (k : Nat) (r : Int) (hk : 3 < k) : shardref1_Hidden.f k r = some (hid r) := by
  unfold hid
  by_cases h0 : r < 0
  · obtain ⟨k, rfl⟩ : ∃ m, k = m + 1 := ⟨k - 1, by omega⟩
    simp only [shardref1_Hidden.f, shardref1_Hidden.j0, if_pos h0, if_true]
    exact congrArg some (decide_eq_true (by omega)).symm
  · simp only [shardref1_Hidden.f, ge_iff_le, gt_iff_lt, Hid0 k r _ (by omega) (show 0 ≤ r by omega), if_neg h0, Bool.true_or]
    repeat' split
    all_goals (congr 1; rw [Bool.eq_iff_iff]; simp only [Bool.or_eq_true, decide_eq_true_eq, beq_iff_eq, true_or, true_iff]; omega)

end T1
end Go.Proofs.Ytghhpgpcbnkamaa.Pure
