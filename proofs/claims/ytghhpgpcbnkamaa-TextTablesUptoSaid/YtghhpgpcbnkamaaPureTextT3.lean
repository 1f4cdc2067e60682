/- Plain facts of tables: the document's table; both are the same answer. No program in sight. -/
import Derived.Test.YtghhpgpcbnkamaaPureTextT2
set_option linter.unusedVariables false
set_option linter.unusedSimpArgs false
namespace Go.Proofs.Ytghhpgpcbnkamaa.Pure
open Go.RowKit Go.Proofs.Ytghhpgpcbnkamaa.P Go.Proofs.YtghhpgpcbnkamaaW.PrintWords Go.Proofs.YtghhpgpcbnkamaaW.PrintLast Go.Proofs.YtghhpgpcbnkamaaW.PrintMore Go.Proofs.Ytghhpgpcbnkamaa.PL

namespace TT
open T4 (pw sumw width colw)
theorem rdL4_nat (x0 : List Row) (i : Nat) (h : i < x0.length) : rd_L4 x0 (i : Int) = x0[i] := by
  unfold rd_L4; rw [Int.toNat_natCast, List.getD_eq_getElem?_getD, List.getElem?_eq_getElem h]; rfl
section
variable (M : Nat) (hM : M ≤ 1000000000) (F : Nat) (hF : 2 * M + 1000 ≤ F)
include hM hF
theorem rrow_l (r : Row) (hlen : r.length ≤ 16) (hc : ∀ c ∈ r, c.size ≤ M) : ∀ (d j k : Nat), j + d = r.length → F + d < k + 100 → shardref1_rowFault.l0 k r (j : Int) = some (ffc (r.drop j))
  | 0, j, k, hj, hk => by
    obtain ⟨k, rfl⟩ : ∃ x, k = x + 1 := ⟨k - 1, by omega⟩
    simp only [shardref1_rowFault.l0]
    rw [if_neg (by omega), List.drop_eq_nil_of_le (by omega)]
    rfl
  | d + 1, j, k, hj, hk => by
    obtain ⟨k, rfl⟩ : ∃ x, k = x + 1 := ⟨k - 1, by omega⟩
    have hjl : j < r.length := by omega
    have hcj : r[j].size ≤ M := hc _ (List.getElem_mem hjl)
    simp only [shardref1_rowFault.l0]
    rw [if_pos (by omega), if_pos (by omega), rdOf_nat r j hjl, rfault _ (by omega) k (by omega), List.drop_eq_getElem_cons hjl]
    simp only [Option.bind_some, ffc]
    rw [wrap64_id (by omega) (by omega), show (j : Int) + 1 = ((j + 1 : Nat) : Int) by omega, rrow_l r hlen hc d (j + 1) k (by omega) (by omega)]
    split <;> rfl
theorem rrow (r : Row) (hc : ∀ c ∈ r, c.size ≤ M) (k : Nat) (hk : F < k) : shardref1_rowFault.f k r = some (rf r) := by
  unfold shardref1_rowFault.f rf
  by_cases e : (r.length : Int) > 16
  · rw [if_pos e, if_pos e]
  · rw [if_neg e, if_neg e]
    have := rrow_l M hM F hF r (by omega) hc r.length 0 k (by omega) (by omega)
    rw [List.drop_zero] at this
    exact this
theorem rcol_l (x0 : List Row) (hx : x0.length ≤ 256) (hc : ∀ r ∈ x0, ∀ c ∈ r, c.size ≤ M) (j : Nat) (hj : j < 16) : ∀ (d i k : Nat) (acc : Int), i + d = x0.length → F + d < k + 300 → 0 ≤ acc → shardref1_columnWidth.l0 k x0 (j : Int) acc (i : Int) = some (max acc (wds (x0.drop i) j))
  | 0, i, k, acc, hi, hk, ha => by
    obtain ⟨k, rfl⟩ : ∃ x, k = x + 1 := ⟨k - 1, by omega⟩
    simp only [shardref1_columnWidth.l0]
    rw [if_neg (by omega), List.drop_eq_nil_of_le (by omega)]
    congr 1
    simp only [wds]; omega
  | d + 1, i, k, acc, hi, hk, ha => by
    obtain ⟨k, rfl⟩ : ∃ x, k = x + 1 := ⟨k - 1, by omega⟩
    have hil : i < x0.length := by omega
    simp only [shardref1_columnWidth.l0]
    rw [if_pos (by omega), if_pos (by omega), rdL4_nat x0 i hil, List.drop_eq_getElem_cons hil]
    have ih := fun a => rcol_l x0 hx hc j hj d (i + 1) k a (by omega) (by omega)
    rw [wrap64_id (by omega) (by omega), show (i : Int) + 1 = ((i + 1 : Nat) : Int) by omega]
    simp only [wds]
    by_cases e : (j : Int) < (x0[i].length : Int)
    · have hjl : j < x0[i].length := by omega
      have hcj : x0[i][j].size ≤ M := hc _ (List.getElem_mem hil) _ (List.getElem_mem hjl)
      have ew : wd x0[i] j = (width x0[i][j] : Int) := by rw [wd, if_pos hjl, rdOf_nat _ j hjl]
      rw [if_pos e, if_pos (by omega), rdOf_nat _ j hjl, T4.rWidth _ (by omega) k (by omega), ew]
      simp only [Option.bind_some]
      by_cases g : (width x0[i][j] : Int) > acc
      · rw [if_pos g, ih _ (by omega)]; congr 1; omega
      · rw [if_neg g, ih _ ha]; congr 1; omega
    · rw [if_neg e, ih _ ha, wd, if_neg (by omega)]; congr 1; omega
theorem rcol (x0 : List Row) (hx : x0.length ≤ 256) (hc : ∀ r ∈ x0, ∀ c ∈ r, c.size ≤ M) (j : Nat) (hj : j < 16) (k : Nat) (hk : F < k) : shardref1_columnWidth.f k x0 (j : Int) = some (wds x0 j) := by
  have h := rcol_l M hM F hF x0 hx hc j hj x0.length 0 k 0 (by omega) (by omega) (by omega)
  rw [List.drop_zero] at h
  unfold shardref1_columnWidth.f
  rw [show (0 : Int) = ((0 : Nat) : Int) from rfl] at h ⊢
  rw [h]
  have := wds_nonneg x0 j
  congr 1
  omega

theorem rl3 (x0 : List Row) (ws : List Int) (hws : ws.length = 16) (i : Nat) (hi : i < 1000) (hil : i < x0.length) (r : Row) (hr : x0[i] = r) (hlen : r.length ≤ 16) (hc : ∀ c ∈ r, c.size ≤ M)
    (wc : Nat → Int) (hwc : ∀ t : Nat, t < 16 → rd ws (t : Int) = wc t) (hle : ∀ t : Nat, t < r.length → wd r t ≤ wc t ∧ wc t ≤ 400)
    (ls : Row) (hls : ls.length < 1000) (R : Option Ans) (hn : ∀ k, F ≤ k → shardref1_Table.l2 k x0 ws (ls ++ [fin wc 0 r emp]) ((i + 1 : Nat) : Int) = R) :
    ∀ (d j k : Nat) (s : ByteArray), j + d = r.length → F + d < k → s.size ≤ j * 2000000000 → fin wc j (r.drop j) s = fin wc 0 r emp →
    shardref1_Table.l3 k x0 ws ls (i : Int) s (j : Int) = R
  | 0, j, k, s, hj, hk, hs, h2 => by
    obtain ⟨k, rfl⟩ : ∃ x, k = x + 1 := ⟨k - 1, by omega⟩
    simp only [shardref1_Table.l3, rdL4_nat x0 i hil, hr]
    rw [if_pos (by omega), if_pos (by omega), if_neg (by omega), if_pos (by omega), wrap64_id (by omega) (by omega)]
    rw [List.drop_eq_nil_of_le (by omega)] at h2
    rw [show s = fin wc 0 r emp from h2 ▸ (by rw [fin.eq_1])]
    exact hn k (by omega)
  | d + 1, j, k, s, hj, hk, hs, h2 => by
    obtain ⟨k, rfl⟩ : ∃ x, k = x + 1 := ⟨k - 1, by omega⟩
    have hjl : j < r.length := by omega
    have hcj : r[j].size ≤ M := hc _ (List.getElem_mem hjl)
    have hl := hle j hjl
    rw [wd, if_pos hjl, rdOf_nat r j hjl] at hl
    rw [List.drop_eq_getElem_cons hjl] at h2
    simp only [shardref1_Table.l3, rdL4_nat x0 i hil, hr]
    rw [if_pos (by omega), if_pos (by omega), if_pos (by omega), if_pos (by omega), rdOf_nat r j hjl, if_pos (by omega), wrap64_id (x := (j : Int) + 1) (by omega) (by omega), show (j : Int) + 1 = ((j + 1 : Nat) : Int) by omega]
    by_cases e : ((j + 1 : Nat) : Int) < (r.length : Int)
    · rw [if_pos e, T4.rWidth _ (by omega) k (by omega)]
      simp only [Option.bind_some]
      rw [if_pos (by omega), hwc j (by omega), wrap64_id (x := wc j - (width r[j] : Int)) (by omega) (by omega), wrap64_id (by omega) (by omega), show wc j - (width r[j] : Int) + 2 = (((wc j - width r[j]).toNat + 2 : Nat) : Int) by omega, spaces _ (by omega) k (by omega)]
      simp only [Option.bind_some]
      rw [if_pos (by rw [sp_size]; omega)]
      refine rl3 x0 ws hws i hi hil r hr hlen hc wc hwc hle ls hls R hn d (j + 1) k _ (by omega) (by omega) (by rw [size_app, size_app, sp_size]; omega) ?_
      rw [← h2, List.drop_eq_getElem_cons (show j + 1 < r.length by omega), fin.eq_3]
    · rw [if_neg e]
      refine rl3 x0 ws hws i hi hil r hr hlen hc wc hwc hle ls hls R hn d (j + 1) k _ (by omega) (by omega) (by rw [size_app]; omega) ?_
      rw [← h2, List.drop_eq_nil_of_le (show r.length ≤ j + 1 by omega), fin.eq_1, fin.eq_2]
theorem rl2 (x0 : List Row) (hx : x0.length ≤ 256) (ws : List Int) (hws : ws.length = 16) (hc : ∀ r ∈ x0, r.length ≤ 16 ∧ ∀ c ∈ r, c.size ≤ M)
    (wc : Nat → Int) (hwc : ∀ t : Nat, t < 16 → rd ws (t : Int) = wc t) (hle : ∀ r ∈ x0, ∀ t : Nat, t < r.length → wd r t ≤ wc t ∧ wc t ≤ 400) (R : Option Ans) :
    ∀ (d i k : Nat) (ls : Row), i + d = x0.length → ls.length = i → F + 20 * d < k → R = some (ls ++ (x0.drop i).map (fun r => fin wc 0 r emp), 0, 0) → shardref1_Table.l2 k x0 ws ls (i : Int) = R
  | 0, i, k, ls, hi, hl, hk, h => by
    obtain ⟨k, rfl⟩ : ∃ x, k = x + 1 := ⟨k - 1, by omega⟩
    simp only [shardref1_Table.l2]
    rw [if_neg (by omega), h, List.drop_eq_nil_of_le (by omega), List.map_nil, List.append_nil]
  | d + 1, i, k, ls, hi, hl, hk, h => by
    obtain ⟨k, rfl⟩ : ∃ x, k = x + 1 := ⟨k - 1, by omega⟩
    have hil : i < x0.length := by omega
    have hci := hc _ (List.getElem_mem hil)
    simp only [shardref1_Table.l2]
    rw [if_pos (by omega)]
    refine rl3 M hM (F + 20 * d + 1) (by omega) x0 ws hws i (by omega) hil x0[i] rfl hci.1 hci.2 wc hwc (hle _ (List.getElem_mem hil)) ls (by omega) R (fun k' hk' => ?_) x0[i].length 0 k emp (by omega) (by omega) (Nat.zero_le _) (by rw [List.drop_zero])
    refine rl2 x0 hx ws hws hc wc hwc hle R d (i + 1) k' _ (by omega) (by rw [List.length_append]; simp [hl]) (by omega) ?_
    rw [h, List.drop_eq_getElem_cons hil, List.map_cons, List.append_assoc]
    rfl
theorem rl1 (x0 : List Row) (hx : x0.length ≤ 256) (hc : ∀ r ∈ x0, ∀ c ∈ r, c.size ≤ M) (R : Option Ans)
    (hn : ∀ ws : List Int, ws.length = 16 → (∀ t : Nat, t < 16 → rd ws (t : Int) = wds x0 t) → ∀ k, F ≤ k → shardref1_Table.l2 k x0 ws ([] : Row) 0 = R) :
    ∀ (d j k : Nat) (ws : List Int), j + d = 16 → ws.length = j → (∀ t : Nat, t < j → rd ws (t : Int) = wds x0 t) → F + d + 1 < k → shardref1_Table.l1 k x0 ws (j : Int) = R
  | 0, j, k, ws, hj, hl, hv, hk => by
    obtain ⟨k, rfl⟩ : ∃ x, k = x + 1 := ⟨k - 1, by omega⟩
    simp only [shardref1_Table.l1]
    rw [if_neg (by omega)]
    exact hn ws (by omega) (fun t ht => hv t (by omega)) k (by omega)
  | d + 1, j, k, ws, hj, hl, hv, hk => by
    obtain ⟨k, rfl⟩ : ∃ x, k = x + 1 := ⟨k - 1, by omega⟩
    simp only [shardref1_Table.l1]
    rw [if_pos (by omega), rcol M hM F hF x0 hx hc j (by omega) k (by omega)]
    simp only [Option.bind_some]
    rw [if_pos (by omega), wrap64_id (by omega) (by omega), show (j : Int) + 1 = ((j + 1 : Nat) : Int) by omega]
    refine rl1 x0 hx hc R hn d (j + 1) k _ (by omega) (by rw [List.length_append, hl]; rfl) (fun t ht => ?_) (by omega)
    rw [rd_nat, List.getD_eq_getElem?_getD]
    by_cases e : t < j
    · rw [List.getElem?_append_left (by omega), ← List.getD_eq_getElem?_getD, ← rd_nat]; exact hv t e
    · obtain rfl : t = j := by omega
      rw [List.getElem?_append_right (by omega), hl, Nat.sub_self]; rfl
theorem rl0 (x0 : List Row) (hx : x0.length ≤ 256) (hc : ∀ r ∈ x0, ∀ c ∈ r, c.size ≤ M) (R : Option Ans) :
    ∀ (d i k : Nat), i + d = x0.length → F + 20 * d < k →
    (∀ q, look (x0.drop i) i = some q → R = some (bad q)) →
    (look (x0.drop i) i = none → ∀ k, F ≤ k → shardref1_Table.l1 k x0 ([] : List Int) 0 = R) →
    shardref1_Table.l0 k x0 (i : Int) = R
  | 0, i, k, hi, hk, h1, h2 => by
    obtain ⟨k, rfl⟩ : ∃ x, k = x + 1 := ⟨k - 1, by omega⟩
    simp only [shardref1_Table.l0]
    rw [if_neg (by omega)]
    exact h2 (by rw [List.drop_eq_nil_of_le (by omega)]; rfl) k (by omega)
  | d + 1, i, k, hi, hk, h1, h2 => by
    obtain ⟨k, rfl⟩ : ∃ x, k = x + 1 := ⟨k - 1, by omega⟩
    have hil : i < x0.length := by omega
    rw [List.drop_eq_getElem_cons hil] at h1 h2
    simp only [look] at h1 h2
    simp only [shardref1_Table.l0]
    rw [if_pos (by omega), if_pos (by omega), rdL4_nat x0 i hil, rrow M hM F hF _ (hc _ (List.getElem_mem hil)) k (by omega)]
    simp only [Option.bind_some]
    by_cases e : rf x0[i] = 0
    · rw [if_pos e] at h1 h2
      rw [if_pos e, wrap64_id (by omega) (by omega), show (i : Int) + 1 = ((i + 1 : Nat) : Int) by omega]
      exact rl0 x0 hx hc R d (i + 1) k (by omega) (by omega) h1 h2
    · rw [if_neg e] at h1
      rw [if_neg e, h1 _ rfl]
      rfl
end

/-! ### both -/
theorem rep16 (t : Nat) : rd (List.replicate 16 0) (t : Int) = 0 := by
  rw [rd_nat, List.getD_eq_getElem?_getD, List.getElem?_replicate]; split <;> rfl
theorem ffc_zero : ∀ (r : Row), ffc r = 0 → ∀ c ∈ r, cf c = 0
  | [], _, c, h => by cases h
  | a :: r, e, c, h => by
    unfold ffc at e
    split at e
    · rcases List.mem_cons.mp h with rfl | h
      · assumption
      · exact ffc_zero r e c h
    · exact absurd e (by assumption)
theorem look_none : ∀ (l : List Row) (i : Nat), look l i = none → ∀ r ∈ l, rf r = 0
  | [], _, _, r, h => by cases h
  | a :: l, i, e, r, h => by
    unfold look at e
    split at e
    · rcases List.mem_cons.mp h with rfl | h
      · assumption
      · exact look_none l (i + 1) e r h
    · cases e
theorem wds_le : ∀ (l : List Row), (∀ r ∈ l, rf r = 0) → ∀ t, wds l t ≤ 400
  | [], _, t => by simp [wds]
  | a :: l, h, t => by
    have h1 := wds_le l (fun r hr => h r (List.mem_cons_of_mem _ hr)) t
    have h2 : wd a t ≤ 400 := by
      unfold wd
      split
      · rename_i ht
        have ha := h a (List.mem_cons_self ..)
        unfold rf at ha
        split at ha
        · cases ha
        · have := cf_ok _ (ffc_zero a ha a[t] (List.getElem_mem ht))
          rw [rdOf_nat a t ht]; omega
      · omega
    unfold wds; omega
theorem wd_le_wds : ∀ (l : List Row) (r : Row), r ∈ l → ∀ t, wd r t ≤ wds l t
  | [], r, h, t => by cases h
  | a :: l, r, h, t => by
    unfold wds
    rcases List.mem_cons.mp h with rfl | h
    · omega
    · have := wd_le_wds l r h t; omega
/-- The program's table and the document's. -/
theorem table (rows : List Row) (M : Nat) (hM : M ≤ 1000000000) (hc : ∀ r ∈ rows, ∀ c ∈ r, c.size ≤ M) (k : Nat) (hk : 2 * M + 20000 ≤ k) :
    text_Table.f k rows = some (ans rows) ∧ shardref1_Table.f k rows = some (ans rows) := by
  unfold text_Table.f shardref1_Table.f ans
  by_cases e : (rows.length : Int) > 256
  · rw [if_pos e, if_pos e, if_pos e]; exact ⟨rfl, rfl⟩
  · rw [if_neg e, if_neg e, if_neg e]
    have facts : look rows 0 = none → (∀ r ∈ rows, r.length ≤ 16 ∧ ∀ c ∈ r, c.size ≤ M) ∧ (∀ r ∈ rows, ∀ t : Nat, t < r.length → wd r t ≤ wds rows t ∧ wds rows t ≤ 400) := fun hl => by
      have hz := look_none rows 0 hl
      refine ⟨fun r hr => ⟨?_, hc r hr⟩, fun r hr t ht => ⟨wd_le_wds rows r hr t, wds_le rows hz t⟩⟩
      have := hz r hr
      unfold rf at this
      split at this
      · cases this
      · omega
    constructor
    · refine pl0 M hM (2 * M + 10000) (by omega) rows (by omega) hc _ rows.length 0 k (List.replicate 16 0) (by omega) rfl (fun t ht => ?_) (by omega) (fun q hq => ?_) (fun hl ws hw hv k' hk' => ?_)
      · rw [rep16]; exact Int.le_refl _
      · rw [List.drop_zero] at hq; rw [hq]
      · rw [List.drop_zero] at hl hv
        have hf := facts hl
        refine pl2 M hM (2 * M + 1000) (by omega) rows (by omega) ws hf.1 (wds rows) (fun t ht => ?_) hf.2 _ rows.length 0 k' [] (by omega) rfl (by omega) ?_
        · rw [hv t ht, rep16]
          have := wds_nonneg rows t; omega
        · rw [hl]; rfl
    · refine rl0 M hM (2 * M + 10000) (by omega) rows (by omega) hc _ rows.length 0 k (by omega) (by omega) (fun q hq => ?_) (fun hl k' hk' => ?_)
      · rw [List.drop_zero] at hq; rw [hq]
      · rw [List.drop_zero] at hl
        have hf := facts hl
        refine rl1 M hM (2 * M + 9000) (by omega) rows (by omega) hc _ (fun ws hw hv k2 hk2 => ?_) 16 0 k' [] (by omega) rfl (fun t ht => absurd ht (Nat.not_lt_zero _)) (by omega)
        refine rl2 M hM (2 * M + 1000) (by omega) rows (by omega) ws hw hf.1 (wds rows) hv hf.2 _ rows.length 0 k2 [] (by omega) rfl (by omega) ?_
        rw [hl]; rfl
end TT
end Go.Proofs.Ytghhpgpcbnkamaa.Pure
