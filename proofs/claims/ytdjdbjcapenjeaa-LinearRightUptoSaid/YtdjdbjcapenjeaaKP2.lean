/- Orders of a key's calls: what can be, and the least one. -/
import Derived.Test.YtdjdbjcapenjeaaKP1
import Derived.Test.YtdjdbjcapenjeaaPObeys
set_option linter.unusedVariables false
namespace Go.Proofs.Ytdjdbjcapenjeaa.KP2
open Go Go.Proofs.Ytdjdbjcapenjeaa.Dx Go.Proofs.Ytdjdbjcapenjeaa.Dx.TYtdjdbjcapenjeaa
open KP1 PObeys
abbrev kn (cs : List D30) (i : Nat) : Bool := A.F45.val (cs.getD i d30)
abbrev bf (cs : List D30) (j i : Nat) : Bool := A.F42.val (cs.getD j d30) (cs.getD i d30)
abbrev ply (cs : List D30) (i : Nat) (x : D60) : Bool × D60 := B.F26.val (cs.getD i d30) x
abbrev rv (cs : List D30) (k : Nat) : List Int := (cs.getD k d30).2.2.1.2.2.2.1
/-- A cell that may come about. -/
def XOK (cs : List D30) (x : D60) : Prop := x = d60 ∨ ∃ k, k < cs.length ∧ x = (true, rv cs k, ())
/-- All stand that must. -/
def cpl (cs : List D30) (S : Nat) : Prop := ∀ j, j < cs.length → kn cs j = true → S.testBit j = true
/-- The call may come next, as to the times. -/
def fr (cs : List D30) (S i : Nat) : Prop := S.testBit i = false ∧ ∀ j, j < cs.length → bf cs j i = true → S.testBit j = true
/-- The rest can be laid behind a set. -/
inductive Can (cs : List D30) : Nat → D60 → Prop
  | done {S x} : cpl cs S → Can cs S x
  | step {S x} (i : Nat) : i < cs.length → fr cs S i → (ply cs i x).1 = true → Can cs (S ||| 2 ^ i) (ply cs i x).2 → Can cs S x
def cand (cs : List D30) (S : Nat) (x : D60) (i : Nat) : Prop := i < cs.length ∧ fr cs S i ∧ (ply cs i x).1 = true ∧ Can cs (S ||| 2 ^ i) (ply cs i x).2
theorem can_iff (cs : List D30) (S : Nat) (x : D60) : Can cs S x ↔ cpl cs S ∨ ∃ i, cand cs S x i := by
  constructor
  · intro h
    cases h with
    | done h => exact .inl h
    | step i h1 h2 h3 h4 => exact .inr ⟨i, h1, h2, h3, h4⟩
  · rintro (h | ⟨i, h1, h2, h3, h4⟩)
    · exact .done h
    · exact .step i h1 h2 h3 h4
/-- The least order behind a set. -/
inductive Ord (cs : List D30) : Nat → D60 → List Int → Prop
  | done {S x} : cpl cs S → Ord cs S x []
  | step {S x} (i : Nat) (l : List Int) : ¬ cpl cs S → cand cs S x i → (∀ j, j < i → ¬ cand cs S x j) → Ord cs (S ||| 2 ^ i) (ply cs i x).2 l → Ord cs S x ((i : Int) :: l)
theorem Ord.can {cs : List D30} {S : Nat} {x : D60} {l : List Int} (h : Ord cs S x l) : Can cs S x := by
  cases h with
  | done h => exact .done h
  | step i l h1 h2 h3 h4 => exact (can_iff cs S x).2 (.inr ⟨i, h2⟩)
theorem Ord.unique {cs : List D30} {S : Nat} {x : D60} {l : List Int} (h : Ord cs S x l) : ∀ {l' : List Int}, Ord cs S x l' → l = l' := by
  induction h with
  | done h =>
    intro l' h'
    cases h' with
    | done _ => rfl
    | step i l h1 _ _ _ => exact absurd h h1
  | step i l h1 h2 h3 h4 ih =>
    intro l' h'
    cases h' with
    | done h => exact absurd h h1
    | step i' l' g1 g2 g3 g4 =>
      have : i = i' := by
        rcases Nat.lt_trichotomy i i' with h | h | h
        · exact absurd h2 (g3 i h)
        · exact h
        · exact absurd g2 (h3 i' h)
      subst this
      rw [ih g4]
/-- How many of the first k are not in the set. -/
def mu (S : Nat) : Nat → Nat
  | 0 => 0
  | k + 1 => mu S k + bif S.testBit k then 0 else 1
theorem mu_le (S : Nat) : ∀ k, mu S k ≤ k
  | 0 => Nat.le_refl 0
  | k + 1 => by
    have := mu_le S k
    rw [mu]
    cases S.testBit k with
    | false => rw [cond_false]; omega
    | true => rw [cond_true]; omega
theorem or_bit (S i j : Nat) : (S ||| 2 ^ i).testBit j = (S.testBit j || decide (i = j)) := by rw [Nat.testBit_or, Nat.testBit_two_pow]
theorem mu_or (S i : Nat) (h : S.testBit i = false) : ∀ k, mu (S ||| 2 ^ i) k + (if i < k then 1 else 0) = mu S k
  | 0 => rfl
  | k + 1 => by
    have ih := mu_or S i h k
    rw [mu, mu, or_bit]
    by_cases hk : i = k
    · subst hk
      rw [if_neg (Nat.lt_irrefl i)] at ih
      rw [if_pos (Nat.lt_succ_self i), h, decide_eq_true rfl, Bool.or_true, cond_true, cond_false]
      omega
    · rw [decide_eq_false hk, Bool.or_false]
      by_cases hlt : i < k
      · rw [if_pos hlt] at ih; rw [if_pos (by omega)]; omega
      · rw [if_neg hlt] at ih; rw [if_neg (by omega)]; omega
theorem mu_pos (S i k : Nat) (h : S.testBit i = false) (hi : i < k) : mu (S ||| 2 ^ i) k + 1 = mu S k := by
  have := mu_or S i h k
  rw [if_pos hi] at this
  exact this
theorem Ord.len {cs : List D30} {S : Nat} {x : D60} {l : List Int} (h : Ord cs S x l) : l.length ≤ mu S cs.length := by
  induction h with
  | done h => exact Nat.zero_le _
  | step i l h1 h2 h3 h4 ih =>
    have := mu_pos _ i cs.length h2.2.1.1 h2.1
    rw [List.length_cons]; omega
/-- What is known of the calls. -/
structure Good (cs : List D30) : Prop where
  n16 : cs.length ≤ 16
  all : ∀ c ∈ cs, B.F25.val c = true ∧ (c.2.2.1.1 == 5) = false
  cb : ∀ c ∈ cs, CB c
  lc : ∀ c ∈ cs, C.F9.LC c
theorem mem_at {cs : List D30} {i : Nat} (h : i < cs.length) : cs.getD i d30 ∈ cs := C.F9.getD_mem h d30
theorem BY_rv {cs : List D30} (g : Good cs) {k : Nat} (h : k < cs.length) : BY (rv cs k) := (g.cb _ (mem_at h)).2.1
theorem XOK_BY {cs : List D30} (g : Good cs) {x : D60} (h : XOK cs x) : BY x.2.1 := by
  rcases h with rfl | ⟨k, hk, rfl⟩
  · intro b hb; cases hb
  · exact BY_rv g hk
theorem ply_X {cs : List D30} {x : D60} {i : Nat} (hi : i < cs.length) (hx : XOK cs x) : XOK cs (ply cs i x).2 := by
  have hb : ∀ {α : Type} (p : α → Prop) (b : Bool) (u v : α), p u → p v → p (bif b then u else v) := fun p b u v h1 h2 => by cases b <;> assumption
  have h0 : XOK cs d60 := .inl rfl
  have h0' : XOK cs (false, [], ()) := h0
  have h1 : XOK cs (true, (cs.getD i d30).2.2.1.2.2.2.1, ()) := .inr ⟨i, hi, rfl⟩
  have h46 : XOK cs (B.F46.val (cs.getD i d30).2.2.1 x).2 := by
    unfold B.F46.val
    repeat (first | exact h0' | exact h1 | exact hx | refine hb (fun y : Int × D60 => XOK cs y.2) _ _ _ ?_ ?_)
  show XOK cs (B.F26.val (cs.getD i d30) x).2
  unfold B.F26.val
  repeat (first | exact h0' | exact h46 | exact hx | refine hb (fun y : Bool × D60 => XOK cs y.2) _ _ _ ?_ ?_)
/-- The program's Play is the document's. -/
theorem ply_eq {cs : List D30} (g : Good cs) {x : D60} {i : Nat} (hi : i < cs.length) (hx : XOK cs x) :
    (B.F29.val (cs.getD i d30) x).2 = (ply cs i x).1 ∧ ((ply cs i x).1 = true → (B.F29.val (cs.getD i d30) x).1 = (ply cs i x).2) := by
  obtain ⟨a1, a2⟩ := g.all _ (mem_at hi)
  obtain ⟨h1, h2⟩ := play_eq (cs.getD i d30) x a1 a2 (g.cb _ (mem_at hi)) (XOK_BY g hx)
  exact ⟨h1, fun h => h2 (h1.trans h)⟩
theorem or_lt {S i n : Nat} (hS : S < 2 ^ n) (hi : i < n) : S ||| 2 ^ i < 2 ^ n := Nat.or_lt_two_pow hS (Nat.pow_lt_pow_right (by decide) hi)
theorem lt16 {S n : Nat} (hn : n ≤ 16) (hS : S < 2 ^ n) : S < 65536 := Nat.lt_of_lt_of_le hS (Nat.pow_le_pow_right (by decide) hn : 2 ^ n ≤ 2 ^ 16)
end Go.Proofs.Ytdjdbjcapenjeaa.KP2
