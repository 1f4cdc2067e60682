/- Every role, every leave and every kind's word is the document's. -/
import Derived.Test.YtipgpcpolobjiaaDoorXPl
import Derived.Test.YtipgpcpolobjiaaDoorPx8
set_option linter.unusedVariables false
set_option linter.unusedSimpArgs false
namespace Go.Proofs.YtipgpcpolobjiaaDoor.Pure
open Go.RowKit Go.Proofs.YtipgpcpolobjiaaDoor.P Go.Proofs.YtipgpcpolobjiaaDoorW.PrintWords Go.Proofs.YtipgpcpolobjiaaDoorW.PrintLast Go.Proofs.YtipgpcpolobjiaaDoor.PL

namespace TR
def role (a : Int) : Int := if a < 16 then 1 else if a < 32 then 2 else if a = 32 then 3 else 4
theorem roleOf (a : Int) : wire_RoleOf.f a = some (role a) := by
  unfold wire_RoleOf.f role
  repeat' split
  all_goals rfl
theorem role3 (a : Int) : shardref3_Role.f a = some (role a) := by
  unfold shardref3_Role.f role
  repeat' split
  all_goals first | rfl | (exfalso; omega)
theorem role_range (a : Int) : role a = 1 ∨ role a = 2 ∨ role a = 3 ∨ role a = 4 := by
  unfold role
  repeat' split
  all_goals simp
/-- Who may send what to whom. -/
def may (f t c : Int) (ne : Bool) : Bool :=
  (decide (f = 2 ∧ t = 1 ∧ 1 ≤ c ∧ c ≤ 5)) || (decide (f = 1 ∧ t = 2 ∧ (c = 6 ∨ c = 7))) || (decide (f = 3 ∧ t = 1 ∧ c = 8)) || (decide (f = 1 ∧ t = 3 ∧ c = 9)) || (decide (f = 1 ∧ t = 1 ∧ (c = 10 ∨ c = 11)) && ne)
theorem kinds (c : Int) (h0 : 0 ≤ c) : c = 0 ∨ c = 1 ∨ c = 2 ∨ c = 3 ∨ c = 4 ∨ c = 5 ∨ c = 6 ∨ c = 7 ∨ c = 8 ∨ c = 9 ∨ c = 10 ∨ c = 11 ∨ 12 ≤ c := by omega
theorem allowed (a b c : Int) (k : Nat) (hk : 5 < k) (h0 : 0 ≤ c) : wire_Allowed.f k a b c = some (may (role a) (role b) c (a != b)) := by
  obtain ⟨k, rfl⟩ : ∃ m, k = m + 5 := ⟨k - 5, by omega⟩
  unfold wire_Allowed.f
  rw [roleOf, roleOf, Option.bind_some, Option.bind_some]
  simp only [wire_Allowed.j0, wire_Allowed.j1]
  have hf := role_range a
  have ht := role_range b
  generalize role a = f at *
  generalize role b = t at *
  generalize (a != b) = ne
  rcases kinds c h0 with h | h | h | h | h | h | h | h | h | h | h | h | h
  any_goals subst h
  all_goals (rcases hf with rfl | rfl | rfl | rfl <;> rcases ht with rfl | rfl | rfl | rfl <;> first | (simp [may]; done) | (simp [may, show ¬ c = 1 by omega, show ¬ c = 2 by omega, show ¬ c = 3 by omega, show ¬ c = 4 by omega, show ¬ c = 5 by omega, show ¬ c = 6 by omega, show ¬ c = 7 by omega, show ¬ c = 8 by omega, show ¬ c = 9 by omega, show ¬ c = 10 by omega, show ¬ c = 11 by omega, show ¬ c ≤ 5 by omega, show 1 ≤ c by omega]; done))
theorem allowed3 (a b c : Int) (k : Nat) (hk : 5 < k) (h0 : 0 ≤ c) : shardref3_Allowed.f k a b c = some (may (role a) (role b) c (a != b)) := by
  obtain ⟨k, rfl⟩ : ∃ m, k = m + 5 := ⟨k - 5, by omega⟩
  unfold shardref3_Allowed.f
  rw [role3, role3, Option.bind_some, Option.bind_some]
  simp only [shardref3_Allowed.j0, shardref3_Allowed.j1, shardref3_Allowed.j2, shardref3_Allowed.j3]
  have hf := role_range a
  have ht := role_range b
  generalize role a = f at *
  generalize role b = t at *
  by_cases hab : a = b
  · have e : (a != b) = false := by simp [hab]
    simp only [if_pos hab, e]
    clear hab e
    rcases kinds c h0 with h | h | h | h | h | h | h | h | h | h | h | h | h
    any_goals subst h
    all_goals (rcases hf with rfl | rfl | rfl | rfl <;> rcases ht with rfl | rfl | rfl | rfl <;> first | (simp [may]; done) | (simp [may, show ¬ c = 1 by omega, show ¬ c = 2 by omega, show ¬ c = 3 by omega, show ¬ c = 4 by omega, show ¬ c = 5 by omega, show ¬ c = 6 by omega, show ¬ c = 7 by omega, show ¬ c = 8 by omega, show ¬ c = 9 by omega, show ¬ c = 10 by omega, show ¬ c = 11 by omega, show ¬ c ≤ 5 by omega, show 1 ≤ c by omega]; done))
  · have e : (a != b) = true := by simp [hab]
    simp only [if_neg hab, e]
    clear hab e
    rcases kinds c h0 with h | h | h | h | h | h | h | h | h | h | h | h | h
    any_goals subst h
    all_goals (rcases hf with rfl | rfl | rfl | rfl <;> rcases ht with rfl | rfl | rfl | rfl <;> first | (simp [may]; done) | (simp [may, show ¬ c = 1 by omega, show ¬ c = 2 by omega, show ¬ c = 3 by omega, show ¬ c = 4 by omega, show ¬ c = 5 by omega, show ¬ c = 6 by omega, show ¬ c = 7 by omega, show ¬ c = 8 by omega, show ¬ c = 9 by omega, show ¬ c = 10 by omega, show ¬ c = 11 by omega, show ¬ c ≤ 5 by omega, show 1 ≤ c by omega]; done))
theorem kindName (c : Int) (h0 : 0 ≤ c) : wire_KindName.f c = shardref3_KindName.f c := by
  unfold wire_KindName.f shardref3_KindName.f
  by_cases c1 : c > 12
  · rw [if_pos c1, if_neg (by omega), if_pos (by omega)]
  · rw [if_neg c1, wire_kindWords.f, Option.bind_some]
    have : c = 0 ∨ c = 1 ∨ c = 2 ∨ c = 3 ∨ c = 4 ∨ c = 5 ∨ c = 6 ∨ c = 7 ∨ c = 8 ∨ c = 9 ∨ c = 10 ∨ c = 11 ∨ c = 12 := by omega
    rcases this with rfl | rfl | rfl | rfl | rfl | rfl | rfl | rfl | rfl | rfl | rfl | rfl | rfl <;> rfl
theorem kindSome (c : Int) : ∃ s, shardref3_KindName.f c = some s := by
  unfold shardref3_KindName.f
  repeat' split
  all_goals exact ⟨_, rfl⟩
end TR
theorem WireRoles (a b c : Int) (ha : (Lit.int .u8 a).wf = true) (hb : (Lit.int .u8 b).wf = true) (hc : (Lit.int .u8 c).wf = true) : ∃ k, shardlaw3_WireRoles.f k a b c = some true := by
  have h1 : 0 ≤ a ∧ a ≤ 255 := by simpa [Lit.wf, IntKind.min, IntKind.max, IntKind.signed, IntKind.bits] using ha
  have h2 : 0 ≤ b ∧ b ≤ 255 := by simpa [Lit.wf, IntKind.min, IntKind.max, IntKind.signed, IntKind.bits] using hb
  have h3 : 0 ≤ c ∧ c ≤ 255 := by simpa [Lit.wf, IntKind.min, IntKind.max, IntKind.signed, IntKind.bits] using hc
  have r1 := TR.role_range a
  have r2 := TR.role_range b
  refine ⟨10, ?_⟩
  obtain ⟨s, hs⟩ := TR.kindSome c
  unfold shardlaw3_WireRoles.f
  rw [wrap64_id (x := a) (by omega) (by omega), wrap64_id (x := b) (by omega) (by omega), wrap64_id (x := c) (by omega) (by omega), TR.roleOf, TR.roleOf, TR.allowed a b c 10 (by omega) h3.1, TR.allowed3 a b c 10 (by omega) h3.1, TR.kindName c h3.1, hs, TR.role3, TR.role3]
  simp only [Option.bind_some]
  rw [wrap64_id (x := TR.role a) (by omega) (by omega), wrap64_id (x := TR.role b) (by omega) (by omega)]
  simp
end Go.Proofs.YtipgpcpolobjiaaDoor.Pure
