/- The program's Merge and the document's are one. -/
import Derived.Test.YtdjdbjcapenjeaaPMergeB
set_option linter.unusedVariables false
namespace Go.Proofs.Ytdjdbjcapenjeaa.PMerge
open Go Go.Proofs.Ytdjdbjcapenjeaa.Dx Go.Proofs.Ytdjdbjcapenjeaa.D Go.Proofs.Ytdjdbjcapenjeaa.M Go.Proofs.Ytdjdbjcapenjeaa.N Go.Proofs.Ytdjdbjcapenjeaa.PMergeA Go.Proofs.Ytdjdbjcapenjeaa.PMergeB
theorem okL_lst {cs : List D30} {orders : List (List Int)} (h : N.F32.okL cs orders = true) : lst cs [] orders.flatten = true := by
  rw [okL_eq, Bool.and_eq_true, Bool.and_eq_true] at h
  exact h.1.1
theorem lst_OR {cs : List D30} {orders : List (List Int)} (hm : ∀ o ∈ orders, o.length ≤ LB) (h : lst cs [] orders.flatten = true) : Q.F37.OR cs orders := fun o ho => ⟨hm o ho, fun y hy =>
  okAt_r (lst_in _ _ h y (List.mem_flatten.2 ⟨o, ho, hy⟩))⟩
theorem lst_LOK {cs : List D30} {orders : List (List Int)} (hm : ∀ o ∈ orders, o.length ≤ LB) (h : lst cs [] orders.flatten = true) : LOK cs (orders.map ln0) := fun l hl => by
  obtain ⟨o, ho, rfl⟩ := List.mem_map.1 hl
  exact ⟨Int.le_refl 0, by show (0 : Int) ≤ o.length; omega, hm o ho, (lst_OR hm h o ho).2⟩
theorem val_eq (cs : List D30) (orders : List (List Int)) (hm : ∀ o ∈ orders, o.length ≤ LB) : O.F14.val cs orders = R.F15.val cs orders := by
  unfold O.F14.val R.F15.val
  rw [PObeys.allMayBe_eq, okL_eq]
  cases h1 : cs.all B.F25.val with
  | false => rfl
  | true =>
    cases h2 : lst cs [] orders.flatten with
    | false => rfl
    | true =>
      cases h3 : (List.range' 0 cs.length).all (D.F36.inOr cs orders.flatten) with
      | false => rfl
      | true =>
        cases h4 : (List.range' 0 orders.length).all (Q.F37.apO cs orders) with
        | false => rfl
        | true =>
          have hk : ∀ y : Int, A.F45.val (cs.getD y.toNat d30) = true → 0 ≤ (cs.getD y.toNat d30).2.2.2.2.2.2.1 := fun y hy => by
            by_cases hn : y.toNat < cs.length
            · exact PObeys.mayBe_end _ (List.all_eq_true.1 h1 _ (C.F9.getD_mem hn d30)) hy
            · rw [List.getD_eq_getElem?_getD, List.getElem?_eq_none (by omega)]; exact Int.le_refl 0
          have e := mg_eq cs orders hk orders.flatten.length (orders.map ln0) [] (fst_start orders) (lst_LOK hm h2) (lst_nodup cs _ _ h2).1 (by rw [rem_start])
          rw [rem_start] at e
          rw [sm_eq, Int.toNat_natCast, e]
          rfl
#print axioms val_eq
end Go.Proofs.Ytdjdbjcapenjeaa.PMerge
