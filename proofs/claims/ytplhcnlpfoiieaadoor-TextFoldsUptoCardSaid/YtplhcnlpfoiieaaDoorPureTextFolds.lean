/- Without the document's answer: a folded name is a name, folded already, and as long as the name. -/
import Derived.Test.YtplhcnlpfoiieaaDoorPureText7
import Derived.Test.YtplhcnlpfoiieaaDoorPx61
set_option linter.unusedVariables false
set_option linter.unusedSimpArgs false
namespace Go.Proofs.YtplhcnlpfoiieaaDoor.Pure
open Go.RowKit Go.Proofs.YtplhcnlpfoiieaaDoor.P Go.Proofs.YtplhcnlpfoiieaaDoorW.PrintWords Go.Proofs.YtplhcnlpfoiieaaDoorW.PrintLast Go.Proofs.YtplhcnlpfoiieaaDoor.PL

namespace TO
open T7 T2
open T1 (good enc)
def okR : Nat → List Int → Prop
  | _, [] => True
  | j, r :: R => ok j r = true ∧ okR (j + 1) R
def nums (l : List UInt8) : List Int := l.map fun c => (c.toNat : Int)
theorem str_nums (l : List UInt8) : strOfNums (nums l) = ⟨l.toArray⟩ := by
  unfold strOfNums nums
  rw [List.map_map]
  congr 2
  conv => rhs; rw [← List.map_id l]
  refine List.map_congr_left fun c _ => ?_
  simp only [Function.comp_apply, Int.toNat_natCast, UInt8.ofNat_toNat, id_eq]
theorem small_again (r : Int) (h : good r) : text_small.v (text_small.v r) = text_small.v r := by
  have h2 := small_good r h
  unfold T1.good at h h2
  rw [small_val _ (by omega), small_val r (by omega)]
  repeat' split
  all_goals omega
theorem small_len (r : Int) (h : good r) : (enc (text_small.v r)).data.toList.length = (enc r).data.toList.length := by
  rw [enc_size _ (small_good r h), enc_size r h]
  unfold T1.good at h
  rw [small_val r (by omega)]
  repeat' split
  all_goals first | rfl | (exfalso; omega)
theorem small_ok (j : Nat) (r : Int) (h : good r) (ho : ok j r = true) : ok j (text_small.v r) = true := by
  unfold T1.good at h
  rw [small_val r (by omega)]
  unfold ok ltr inn at *
  simp only [Bool.and_eq_true, Bool.or_eq_true, decide_eq_true_eq] at ho ⊢
  refine ⟨ho.1, ?_⟩
  have h2 := ho.2
  split
  · left; omega
  · split
    · left; omega
    · exact h2
/-- What a name comes to: an error at a place, or the encodings of folded runes, as many bytes as there were. -/
theorem parts (s : ByteArray) : ∀ (d p j : Nat) (acc : List Int) (a : ByteArray) (at_ e : Int), s.size ≤ p + d → p ≤ s.size → spec s (U.cuts s d p) j acc = (a, at_, e) →
    (e ≠ 0 → a = ⟨#[]⟩ ∧ at_ ≤ s.size) ∧ (e = 0 → at_ = 0 ∧ ∃ R : List Int, okR j R ∧ (∀ r ∈ R, good r ∧ text_small.v r = r) ∧ a = strOfNums (acc ++ nums (encs R)) ∧ (encs R).length = s.size - p)
  | 0, p, j, acc, a, at_, e, hd, hp, h => by
    rw [U.cuts, spec] at h
    simp only [Prod.mk.injEq] at h
    obtain ⟨rfl, rfl, rfl⟩ := h
    exact ⟨fun h => absurd rfl h, fun _ => ⟨rfl, [], trivial, by simp, by simp [T2.encs, nums], by simp [T2.encs]; omega⟩⟩
  | d + 1, p, j, acc, a, at_, e, hd, hp, h => by
    by_cases hlt : p < s.size
    · rw [U.cuts, if_pos hlt, spec] at h
      by_cases hu : U.usz s p = 0
      · rw [if_pos hu] at h
        simp only [Prod.mk.injEq] at h
        obtain ⟨rfl, rfl, rfl⟩ := h
        exact ⟨fun _ => ⟨rfl, by omega⟩, fun h => absurd h (by decide)⟩
      · rw [if_neg hu] at h
        obtain ⟨hg, hb⟩ := T3.enc_at s p hlt hu
        have hst := U.stp_le s p hlt
        have hst2 : U.stp s p = U.usz s p := by rw [U.stp, if_neg hu]
        have hlen : (enc (U.uval s p (U.usz s p) : Int)).data.toList.length = U.usz s p := by
          rw [hb, List.length_take, List.length_drop, size_list]; omega
        rw [hst2] at h hst
        have hupos : 1 ≤ U.usz s p := by omega
        generalize U.uval s p (U.usz s p) = r at *
        by_cases ho : ok j (r : Int) = false
        · rw [if_pos ho] at h
          simp only [Prod.mk.injEq] at h
          obtain ⟨rfl, rfl, rfl⟩ := h
          exact ⟨fun _ => ⟨rfl, by omega⟩, fun h => absurd h (by decide)⟩
        · rw [if_neg ho] at h
          obtain ⟨h1, h2⟩ := parts s d (p + U.usz s p) (j + 1) _ a at_ e (by omega) (by omega) h
          refine ⟨h1, fun he => ?_⟩
          obtain ⟨h3, R, h4, h5, h6, h7⟩ := h2 he
          replace ho : ok j (r : Int) = true := by cases h : ok j (r : Int); exact absurd h ho; rfl
          refine ⟨h3, text_small.v r :: R, ⟨small_ok j r hg ho, h4⟩, ?_, ?_, ?_⟩
          · intro x hx
            rcases List.mem_cons.1 hx with rfl | hx
            · exact ⟨small_good r hg, small_again r hg⟩
            · exact h5 x hx
          · rw [h6, encs_cons]
            unfold nums bytesOf
            rw [List.map_append, List.append_assoc]
          · rw [encs_cons, List.length_append, h7, small_len _ hg, hlen]; omega
    · rw [U.cuts_end s _ p hlt, spec] at h
      simp only [Prod.mk.injEq] at h
      obtain ⟨rfl, rfl, rfl⟩ := h
      exact ⟨fun h => absurd rfl h, fun _ => ⟨rfl, [], trivial, by simp, by simp [T2.encs, nums], by simp [T2.encs]; omega⟩⟩
/-- Encodings of folded runes are a name. -/
theorem again (a : ByteArray) : ∀ (R : List Int) (p j : Nat) (acc : List Int), a.data.toList.drop p = encs R ++ [] → okR j R → (∀ r ∈ R, good r ∧ text_small.v r = r) → spec a (starts R p) j acc = (strOfNums (acc ++ nums (encs R)), 0, 0)
  | [], p, j, acc, hd, ho, hg => by
    rw [starts, spec]
    simp [T2.encs, nums]
  | r :: R, p, j, acc, hd, ho, hg => by
    obtain ⟨hr, hv⟩ := hg r List.mem_cons_self
    rw [encs_cons, List.append_assoc] at hd
    obtain ⟨h1, h2, h3, h4⟩ := stp_of hr hd
    have hrn : (U.uval a p (U.usz a p) : Int) = r := by rw [← h2, U.rn, if_neg h3]
    rw [starts, spec, if_neg h3, hrn, if_neg (by rw [ho.1]; decide), again a R _ (j + 1) _ (drop_next hd) ho.2 (fun x hx => hg x (List.mem_cons_of_mem _ hx)), hv, encs_cons]
    unfold nums bytesOf
    rw [List.map_append, List.append_assoc]
theorem name_parts (s a : ByteArray) (at_ e : Int) (h : name s = (a, at_, e)) : (e ≠ 0 → a = ⟨#[]⟩ ∧ at_ ≤ s.size) ∧ (e = 0 → at_ = 0 ∧ a.size = s.size ∧ name a = (a, 0, 0)) := by
  unfold name at h
  by_cases h0 : s.size = 0
  · rw [if_pos h0] at h
    simp only [Prod.mk.injEq] at h
    obtain ⟨rfl, rfl, rfl⟩ := h
    exact ⟨fun _ => ⟨rfl, by omega⟩, fun h => absurd h (by decide)⟩
  · rw [if_neg h0] at h
    obtain ⟨h1, h2⟩ := parts s s.size 0 0 [] a at_ e (by omega) (by omega) h
    refine ⟨h1, fun he => ?_⟩
    obtain ⟨h3, R, h4, h5, h6, h7⟩ := h2 he
    rw [List.nil_append, str_nums] at h6
    have hal : a.data.toList = encs R := by rw [h6]
    have has : a.size = s.size := by rw [← size_list, hal, h7]; omega
    refine ⟨h3, has, ?_⟩
    unfold name
    rw [if_neg (by omega), cuts_all a ⟨#[]⟩ R (fun r hr => (h5 r hr).1) (by rw [hal]; simp) a.size (Nat.le_refl _)]
    have e0 : U.cuts (⟨#[]⟩ : ByteArray) (⟨#[]⟩ : ByteArray).size 0 = [] := rfl
    rw [e0, List.map_nil, List.append_nil, again a R 0 0 [] (by rw [List.drop_zero, hal, List.append_nil]) h4 h5, List.nil_append, str_nums, ← h6]
theorem first : name (⟨#[65, 98, 45, 57]⟩ : ByteArray) = ((⟨#[97, 98, 45, 57]⟩ : ByteArray), 0, 0) := by decide +kernel
end TO
theorem TextFolds (s : ByteArray) (hs : s.size ≤ 1048576) : ∃ k, shardlaw1_TextFolds.f k s = some true := by
  refine ⟨3 * s.size + 100, ?_⟩
  unfold shardlaw1_TextFolds.f
  rw [T7.tName _ (by decide) _ (by rw [show (⟨#[65, 98, 45, 57]⟩ : ByteArray).size = 4 from rfl]; omega), TO.first, Option.bind_some]
  simp only [if_true]
  rw [show ((⟨#[97, 98, 45, 57]⟩ : ByteArray).toList != ([97, 98, 45, 57] : List UInt8)) = false by rw [ByteArray.toList_eq]; rfl]
  rw [show 3 * s.size + 100 = (3 * s.size + 99) + 1 from rfl]
  simp only [shardlaw1_TextFolds.j0, Bool.false_eq_true, if_false]
  rw [T7.tName s (by omega) _ (by omega), Option.bind_some]
  obtain ⟨a, at_, e, h⟩ : ∃ a at_ e, T7.name s = (a, at_, e) := ⟨_, _, _, rfl⟩
  obtain ⟨h1, h2⟩ := TO.name_parts s a at_ e h
  rw [h]
  simp only []
  by_cases he : e = 0
  · obtain ⟨h3, h4, h5⟩ := h2 he
    rw [if_pos he, T7.tName a (by omega) _ (by omega), h5, Option.bind_some]
    simp only [if_true]
    rw [if_pos (by omega), h3]
    rfl
  · obtain ⟨h3, h4⟩ := h1 he
    rw [if_neg he, h3, if_pos (by rw [ByteArray.toList_eq]), decide_eq_true h4]
end Go.Proofs.YtplhcnlpfoiieaaDoor.Pure
