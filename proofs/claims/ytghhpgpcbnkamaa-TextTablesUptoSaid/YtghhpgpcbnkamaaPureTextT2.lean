/- Plain facts of tables: what the program and the document answer. No program in sight. -/
import Derived.Test.YtghhpgpcbnkamaaPureTextT
set_option linter.unusedVariables false
set_option linter.unusedSimpArgs false
namespace Go.Proofs.Ytghhpgpcbnkamaa.Pure
open Go.RowKit Go.Proofs.Ytghhpgpcbnkamaa.P Go.Proofs.YtghhpgpcbnkamaaW.PrintWords Go.Proofs.YtghhpgpcbnkamaaW.PrintLast Go.Proofs.YtghhpgpcbnkamaaW.PrintMore Go.Proofs.Ytghhpgpcbnkamaa.PL

namespace TT
open T4 (pw sumw width colw)
abbrev Row := List ByteArray
abbrev emp : ByteArray := ⟨#[]⟩
/-- The first fault of a row's cells. -/
def ffc : Row → Int
  | [] => 0
  | c :: l => if cf c = 0 then ffc l else cf c
def rf (r : Row) : Int := if (r.length : Int) > 16 then 18 else ffc r
/-- A row's width at a column. -/
def wd (r : Row) (j : Nat) : Int := if j < r.length then (width (rdOf ByteArray.empty r (j : Int)) : Int) else 0
def wds : List Row → Nat → Int
  | [], _ => 0
  | r :: l, j => max (wd r j) (wds l j)
/-- A row's line. -/
def fin (wc : Nat → Int) : Nat → Row → ByteArray → ByteArray
  | _, [], line => line
  | _, [c], line => line ++ c
  | j, c :: c' :: l, line => fin wc (j + 1) (c' :: l) (line ++ c ++ sp ((wc j - width c).toNat + 2))
/-- The first row at fault. -/
def look : List Row → Nat → Option (Nat × Int)
  | [], _ => none
  | r :: l, i => if rf r = 0 then look l (i + 1) else some (i, rf r)
abbrev Ans := Row × Int × Int
def bad (q : Nat × Int) : Ans := (([] : Row), (q.1 : Int), q.2)
def lines (rows : List Row) : Row := rows.map fun r => fin (wds rows) 0 r emp
def ans (rows : List Row) : Ans := if (rows.length : Int) > 256 then (([] : Row), 0, 18) else
  match look rows 0 with
  | some q => bad q
  | none => (lines rows, 0, 0)

theorem rd_nat (ws : List Int) (t : Nat) : rd ws (t : Int) = ws.getD t 0 := by unfold rd; rw [Int.toNat_natCast]
theorem rd_set (ws : List Int) (j t : Nat) (v : Int) (hj : j < ws.length) : rd (ws.set j v) (t : Int) = if t = j then v else rd ws (t : Int) := by
  rw [rd_nat, rd_nat, List.getD_eq_getElem?_getD, List.getD_eq_getElem?_getD, List.getElem?_set]
  by_cases e : j = t
  · subst e; simp [hj]
  · rw [if_neg e, if_neg (fun h => e h.symm)]
theorem mx_max (a b : Int) : mx a b = max a b := by unfold mx; split <;> omega
theorem rdOf_nat (r : Row) (j : Nat) (h : j < r.length) : rdOf ByteArray.empty r (j : Int) = r[j] := by
  unfold rdOf; rw [Int.toNat_natCast, List.getD_eq_getElem?_getD, List.getElem?_eq_getElem h]; rfl
theorem wd_nonneg (r : Row) (j : Nat) : 0 ≤ wd r j := by unfold wd; split <;> omega
theorem wds_nonneg : ∀ (l : List Row) (j : Nat), 0 ≤ wds l j
  | [], _ => by simp [wds]
  | r :: l, j => by have := wds_nonneg l j; unfold wds; omega
theorem row_nat (x0 : List Row) (i : Nat) (h : i < x0.length) : text_Table.row x0 (i : Int) = x0[i] := by
  unfold text_Table.row; rw [Int.toNat_natCast, List.getD_eq_getElem?_getD, List.getElem?_eq_getElem h]; rfl

/-! ### the program: the widths -/
section
variable (M : Nat) (hM : M ≤ 1000000000) (F : Nat) (hF : 2 * M + 1000 ≤ F)
include hM hF
theorem pl1 (x0 : List Row) (i : Nat) (hi : i < 1000) (r : Row) (hr : text_Table.row x0 (i : Int) = r) (hlen : r.length ≤ 16) (hc : ∀ c ∈ r, c.size ≤ M) (R : Option Ans) :
    ∀ (d j k : Nat) (ws : List Int), j + d = r.length → ws.length = 16 → F + d < k →
    (ffc (r.drop j) ≠ 0 → R = some (bad (i, ffc (r.drop j)))) →
    (ffc (r.drop j) = 0 → ∀ ws' : List Int, ws'.length = 16 → (∀ t : Nat, t < 16 → rd ws' (t : Int) = if j ≤ t ∧ t < r.length then max (rd ws (t : Int)) (wd r t) else rd ws (t : Int)) → ∀ k, F ≤ k → text_Table.l0 k x0 ws' ((i + 1 : Nat) : Int) = R) →
    text_Table.l1 k x0 ws (i : Int) (j : Int) = R
  | 0, j, k, ws, hj, hw, hk, h1, h2 => by
    obtain ⟨k, rfl⟩ : ∃ x, k = x + 1 := ⟨k - 1, by omega⟩
    simp only [text_Table.l1, hr]
    rw [if_neg (by omega), wrap64_id (by omega) (by omega)]
    refine h2 (by rw [List.drop_eq_nil_of_le (by omega)]; rfl) ws hw (fun t ht => ?_) k (by omega)
    rw [if_neg (by omega)]
  | d + 1, j, k, ws, hj, hw, hk, h1, h2 => by
    obtain ⟨k, rfl⟩ : ∃ x, k = x + 1 := ⟨k - 1, by omega⟩
    have hjl : j < r.length := by omega
    have hcj : r[j].size ≤ M := hc _ (List.getElem_mem hjl)
    have hdr := List.drop_eq_getElem_cons hjl
    rw [hdr] at h1 h2
    simp only [ffc] at h1 h2
    simp only [text_Table.l1, hr]
    rw [if_pos (by omega), if_pos (by omega), rdOf_nat r j hjl, tfault _ (by omega) k (by omega)]
    simp only [Option.bind_some]
    by_cases e : cf r[j] = 0
    · rw [if_pos e] at h1 h2
      rw [if_pos e, T4.tWidth _ (by omega) k (by omega)]
      simp only [Option.bind_some]
      rw [wrap64_id (by omega) (by omega), Int.toNat_natCast, show (j : Int) + 1 = ((j + 1 : Nat) : Int) by omega]
      refine pl1 x0 i hi r hr hlen hc R d (j + 1) k _ (by omega) (by rw [List.length_set]; exact hw) (by omega) h1 (fun hz ws' hw' hv k' hk' => h2 hz ws' hw' (fun t ht => ?_) k' hk')
      rw [hv t ht, rd_set ws j t _ (by omega), mx_max]
      by_cases e1 : t = j
      · subst e1
        rw [if_neg (by omega), if_pos rfl, if_pos ⟨Nat.le_refl _, hjl⟩, wd, if_pos hjl, rdOf_nat r t hjl]
      · rw [if_neg e1]
        by_cases e2 : j + 1 ≤ t ∧ t < r.length
        · rw [if_pos e2, if_pos ⟨by omega, e2.2⟩]
        · rw [if_neg e2, if_neg (by omega)]
    · rw [if_neg e] at h1
      rw [if_neg e, h1 e]
      rfl
theorem pl0 (x0 : List Row) (hx : x0.length ≤ 256) (hc : ∀ r ∈ x0, ∀ c ∈ r, c.size ≤ M) (R : Option Ans) :
    ∀ (d i k : Nat) (ws : List Int), i + d = x0.length → ws.length = 16 → (∀ t : Nat, t < 16 → 0 ≤ rd ws (t : Int)) → F + 20 * d < k →
    (∀ q, look (x0.drop i) i = some q → R = some (bad q)) →
    (look (x0.drop i) i = none → ∀ ws' : List Int, ws'.length = 16 → (∀ t : Nat, t < 16 → rd ws' (t : Int) = max (rd ws (t : Int)) (wds (x0.drop i) t)) → ∀ k, F ≤ k → text_Table.l2 k x0 ws' ([] : Row) 0 = R) →
    text_Table.l0 k x0 ws (i : Int) = R
  | 0, i, k, ws, hi, hw, hn, hk, h1, h2 => by
    obtain ⟨k, rfl⟩ : ∃ x, k = x + 1 := ⟨k - 1, by omega⟩
    simp only [text_Table.l0]
    rw [if_neg (by omega)]
    rw [List.drop_eq_nil_of_le (by omega)] at h2
    refine h2 rfl ws hw (fun t ht => ?_) k (by omega)
    have := hn t ht
    simp only [wds]; omega
  | d + 1, i, k, ws, hi, hw, hn, hk, h1, h2 => by
    obtain ⟨k, rfl⟩ : ∃ x, k = x + 1 := ⟨k - 1, by omega⟩
    have hil : i < x0.length := by omega
    rw [List.drop_eq_getElem_cons hil] at h1 h2
    simp only [look] at h1 h2
    simp only [text_Table.l0]
    rw [if_pos (by omega), if_pos (by omega), row_nat x0 i hil]
    by_cases e : (x0[i].length : Int) > 16
    · have er : rf x0[i] = 18 := by unfold rf; rw [if_pos e]
      rw [if_pos e]
      rw [if_neg (by rw [er]; decide)] at h1
      rw [h1 _ rfl, er]
      rfl
    · have er : rf x0[i] = ffc x0[i] := by unfold rf; rw [if_neg e]
      rw [if_neg e]
      refine pl1 M hM (F + 20 * d + 1) (by omega) x0 i (by omega) x0[i] (row_nat x0 i hil) (by omega) (hc _ (List.getElem_mem hil)) R x0[i].length 0 k ws (by omega) hw (by omega) (fun hz => ?_) (fun hz ws' hw' hv k' hk' => ?_)
      · rw [List.drop_zero] at hz ⊢
        rw [if_neg (by rw [er]; exact hz)] at h1
        rw [h1 _ rfl, er]
      · rw [List.drop_zero] at hz
        rw [if_pos (by rw [er]; exact hz)] at h1 h2
        have hv' : ∀ t : Nat, t < 16 → rd ws' (t : Int) = max (rd ws (t : Int)) (wd x0[i] t) := fun t ht => by
          rw [hv t ht]
          by_cases e2 : 0 ≤ t ∧ t < x0[i].length
          · rw [if_pos e2]
          · rw [if_neg e2, wd, if_neg (by omega)]
            have := hn t ht; omega
        refine pl0 x0 hx hc R d (i + 1) k' ws' (by omega) hw' (fun t ht => ?_) (by omega) h1 (fun hz2 ws2 hw2 hv2 k2 hk2 => h2 hz2 ws2 hw2 (fun t ht => ?_) k2 hk2)
        · rw [hv' t ht]; have := hn t ht; omega
        · rw [hv2 t ht, hv' t ht, wds]; omega

/-! ### the program: the lines -/
omit hM hF in
theorem head_size (s : ByteArray) (j : Int) : (text_Table.head s j).size ≤ s.size + 2 := by
  unfold text_Table.head
  split
  · rw [size_app]; exact Nat.le_refl _
  · omega
theorem pl3 (x0 : List Row) (ws : List Int) (i : Nat) (hi : i < 1000) (r : Row) (hr : text_Table.row x0 (i : Int) = r) (hlen : r.length ≤ 16) (hc : ∀ c ∈ r, c.size ≤ M)
    (wc : Nat → Int) (hwc : ∀ t : Nat, t < 16 → rd ws (t : Int) = wc t) (hle : ∀ t : Nat, t < r.length → wd r t ≤ wc t ∧ wc t ≤ 400)
    (ls : Row) (hls : ls.length < 1000) (R : Option Ans) (hn : ∀ k, F ≤ k → text_Table.l2 k x0 ws (ls ++ [fin wc 0 r emp]) ((i + 1 : Nat) : Int) = R) :
    ∀ (d j k : Nat) (s : ByteArray), j + d = r.length → F + d < k → s.size ≤ j * 2000000000 → (d = 0 → s = fin wc 0 r emp) → (d ≠ 0 → fin wc j (r.drop j) (text_Table.head s (j : Int)) = fin wc 0 r emp) →
    text_Table.l3 k x0 ws ls (i : Int) s (j : Int) = R
  | 0, j, k, s, hj, hk, hs, h1, h2 => by
    obtain ⟨k, rfl⟩ : ∃ x, k = x + 1 := ⟨k - 1, by omega⟩
    simp only [text_Table.l3, hr]
    rw [if_neg (by omega), if_pos (by omega), wrap64_id (by omega) (by omega), h1 rfl]
    exact hn k (by omega)
  | d + 1, j, k, s, hj, hk, hs, h1, h2 => by
    obtain ⟨k, rfl⟩ : ∃ x, k = x + 1 := ⟨k - 1, by omega⟩
    have hjl : j < r.length := by omega
    have hcj : r[j].size ≤ M := hc _ (List.getElem_mem hjl)
    have hd := List.drop_eq_getElem_cons hjl
    have hq := h2 (by omega)
    rw [hd] at hq
    have hh := head_size s (j : Int)
    have hl := hle j hjl
    rw [wd, if_pos hjl, rdOf_nat r j hjl] at hl
    simp only [text_Table.l3, hr]
    rw [if_pos (by omega), if_pos (by omega), rdOf_nat r j hjl, if_pos ⟨by omega, by omega⟩, wrap64_id (x := (r.length : Int) - 1) (by omega) (by omega), wrap64_id (x := (j : Int) + 1) (by omega) (by omega), show (j : Int) + 1 = ((j + 1 : Nat) : Int) by omega]
    by_cases e : (j : Int) < (r.length : Int) - 1
    · rw [if_pos e, T4.tWidth _ (by omega) k (by omega)]
      simp only [Option.bind_some]
      rw [hwc j (by omega), wrap64_id (by omega) (by omega), show wc j - (width r[j] : Int) = (((wc j - width r[j]).toNat : Nat) : Int) by omega, repeatSp _ (by omega)]
      simp only [Option.bind_some]
      rw [if_pos (by rw [sp_size]; omega)]
      refine pl3 x0 ws i hi r hr hlen hc wc hwc hle ls hls R hn d (j + 1) k _ (by omega) (by omega) (by rw [size_app, size_app, sp_size]; omega) (fun h => absurd h (by omega)) (fun _ => ?_)
      rw [← hq, List.drop_eq_getElem_cons (show j + 1 < r.length by omega)]
      rw [show text_Table.head (text_Table.head s (j : Int) ++ (r[j] ++ sp (wc j - width r[j]).toNat)) ((j + 1 : Nat) : Int) = text_Table.head s (j : Int) ++ (r[j] ++ sp (wc j - width r[j]).toNat) ++ (⟨#[32, 32]⟩ : ByteArray) from by
        unfold text_Table.head; rw [if_pos (show (0 : Int) < ((j + 1 : Nat) : Int) by omega)]]
      rw [fin.eq_3, ba_assoc, ba_assoc r[j], sp_two, ← ba_assoc]
    · rw [if_neg e]
      have hz : d = 0 := by omega
      subst hz
      refine pl3 x0 ws i hi r hr hlen hc wc hwc hle ls hls R hn 0 (j + 1) k _ (by omega) (by omega) (by rw [size_app]; omega) (fun _ => ?_) (fun h => absurd rfl h)
      rw [← hq, List.drop_eq_nil_of_le (by omega)]
      rfl
theorem pl2 (x0 : List Row) (hx : x0.length ≤ 256) (ws : List Int) (hc : ∀ r ∈ x0, r.length ≤ 16 ∧ ∀ c ∈ r, c.size ≤ M)
    (wc : Nat → Int) (hwc : ∀ t : Nat, t < 16 → rd ws (t : Int) = wc t) (hle : ∀ r ∈ x0, ∀ t : Nat, t < r.length → wd r t ≤ wc t ∧ wc t ≤ 400) (R : Option Ans) :
    ∀ (d i k : Nat) (ls : Row), i + d = x0.length → ls.length = i → F + 20 * d < k → R = some (ls ++ (x0.drop i).map (fun r => fin wc 0 r emp), 0, 0) → text_Table.l2 k x0 ws ls (i : Int) = R
  | 0, i, k, ls, hi, hl, hk, h => by
    obtain ⟨k, rfl⟩ : ∃ x, k = x + 1 := ⟨k - 1, by omega⟩
    simp only [text_Table.l2]
    rw [if_neg (by omega), h, List.drop_eq_nil_of_le (by omega), List.map_nil, List.append_nil]
  | d + 1, i, k, ls, hi, hl, hk, h => by
    obtain ⟨k, rfl⟩ : ∃ x, k = x + 1 := ⟨k - 1, by omega⟩
    have hil : i < x0.length := by omega
    have hci := hc _ (List.getElem_mem hil)
    simp only [text_Table.l2]
    rw [if_pos (by omega), if_pos (by omega), row_nat x0 i hil, if_neg (by omega)]
    refine pl3 M hM (F + 20 * d + 1) (by omega) x0 ws i (by omega) x0[i] (row_nat x0 i hil) hci.1 hci.2 wc hwc (hle _ (List.getElem_mem hil)) ls (by omega) R (fun k' hk' => ?_) x0[i].length 0 k emp (by omega) (by omega) (Nat.zero_le _) (fun hz => ?_) (fun _ => ?_)
    · refine pl2 x0 hx ws hc wc hwc hle R d (i + 1) k' _ (by omega) (by rw [List.length_append]; simp [hl]) (by omega) ?_
      rw [h, List.drop_eq_getElem_cons hil, List.map_cons, List.append_assoc]
      rfl
    · rw [List.eq_nil_of_length_eq_zero hz]; rfl
    · rw [List.drop_zero]; rfl
end
end TT
end Go.Proofs.Ytghhpgpcbnkamaa.Pure
