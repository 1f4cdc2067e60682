-- Written by printx.py (this work's driver over the kit's print) out of the translation; Lean checks it.
import Derived.Test.YtghhpgpcbnkamaaXH
import Derived.Test.YtghhpgpcbnkamaaPx0
import Derived.Test.YtghhpgpcbnkamaaPx14
import Derived.Test.YtghhpgpcbnkamaaPx15
import Derived.Test.YtghhpgpcbnkamaaPx16
namespace Go.Proofs.Ytghhpgpcbnkamaa.P
open Go.RowKit Go.Proofs.YtghhpgpcbnkamaaW.PrintWords Go.Proofs.YtghhpgpcbnkamaaW.PrintLast Go.Proofs.YtghhpgpcbnkamaaW.PrintMore
attribute [local go_sem] max2_int min2_int max_two min_two max_three min_three max_four min_four   -- for this text's walks alone
set_option linter.unusedVariables false
set_option linter.unusedSimpArgs false

/-! ### text_Table: function 6 -/
-- GIVEN
/-- text.Table's four loops: over the rows and their cells (the widths), over the rows and their cells (the lines). -/
def text_Table.ok (a b : ByteArray) : Prop := a.size < 1000000000000 ∧ b.size < 1000000000000
instance (a b : ByteArray) : Decidable (text_Table.ok a b) := by unfold text_Table.ok; infer_instance
def text_Table.head (s : ByteArray) (j : Int) : ByteArray := if 0 < j then s ++ (⟨#[32, 32]⟩ : ByteArray) else s
def text_Table.RowAt (w : World) (base gw : Nat) (v : Value) (ls : List ByteArray) : Prop := Kd.R Kd.string 9 w base (fun k_ => k_ ≠ gw) v ls
theorem text_Table.RowAt.below {w w' : World} {base gw : Nat} {v : Value} {ls : List ByteArray} (h : text_Table.RowAt w base gw v ls) (hb : Below w.heap.size w w') : text_Table.RowAt w' base gw v ls := Kd.R_below h hb
theorem text_Table.RowAt.ne {w : World} {base gw : Nat} {v : Value} {ls : List ByteArray} (h : text_Table.RowAt w base gw v ls) : some gw ≠ v.ownBlock := fun e => h.1 gw e.symm rfl
def text_Table.row (xs : List (List ByteArray)) (i : Int) : List ByteArray := xs.getD i.toNat []
theorem text_Table.at_ {w : World} {A : Option Addr} {n : Nat} {xs : List (List ByteArray)} (h : Kd.C (Kd.slice 9 Kd.string) w A n xs) (i : Int) (h0 : 0 ≤ i) (h1 : i < n) : ∃ ad A0 c0, A = some ad ∧ w.cell? (ad.add i.toNat) = some (.slice A0 (text_Table.row xs i).length c0) ∧ (text_Table.row xs i).length ≤ c0 ∧ Kd.string.C w A0 (text_Table.row xs i).length (text_Table.row xs i) := by
  obtain ⟨ad, c, e, _, hK, hc0⟩ := Kd.C_get h ([] : List ByteArray) i h0 h1
  have hc : ∀ j u, c[j]? = some u → w.cell? (ad.add (i.toNat * 1 + j)) = some u := hc0
  obtain ⟨A0, c0, rfl, l0, g0⟩ := hK
  exact ⟨ad, A0, c0, e, by have hq := hc 0 _ rfl; rwa [Nat.mul_one, Nat.add_zero] at hq, l0, g0⟩
theorem text_Table.cell_ {w : World} {A : Option Addr} {n : Nat} {xs : List ByteArray} (h : Kd.string.C w A n xs) (i : Int) (h0 : 0 ≤ i) (h1 : i < n) : ∃ ad, A = some ad ∧ w.cell? (ad.add i.toNat) = some (.string (rdOf ByteArray.empty xs i)) :=
  (Kd.reads_of_C (d := ByteArray.empty) h).at_ i h0 h1
mutual
def text_Table.l0 : Nat → List (List ByteArray) → List Int → Int → Option (List ByteArray × Int × Int)
  | 0, _, _, _ => none
  | k + 1, x0, ws, i => if i < (x0.length : Int) then (if 0 ≤ i then (if ((text_Table.row x0 i).length : Int) > 16 then (some (([] : List ByteArray), i, 18)) else (text_Table.l1 k x0 ws i 0)) else (none)) else (text_Table.l2 k x0 ws ([] : List ByteArray) 0)
def text_Table.l1 : Nat → List (List ByteArray) → List Int → Int → Int → Option (List ByteArray × Int × Int)
  | 0, _, _, _, _ => none
  | k + 1, x0, ws, i, j => if j < ((text_Table.row x0 i).length : Int) then (if 0 ≤ j then ((text_fault.f k (rdOf ByteArray.empty (text_Table.row x0 i) j)).bind fun e => (if e = 0 then ((text_Width.f k (rdOf ByteArray.empty (text_Table.row x0 i) j)).bind fun n => (text_Table.l1 k x0 (ws.set j.toNat (mx (rd ws j) n)) i (wrap64 (j + 1)))) else (some (([] : List ByteArray), i, e)))) else (none)) else (text_Table.l0 k x0 ws (wrap64 (i + 1)))
def text_Table.l2 : Nat → List (List ByteArray) → List Int → List ByteArray → Int → Option (List ByteArray × Int × Int)
  | 0, _, _, _, _ => none
  | k + 1, x0, ws, ls, i => if i < (x0.length : Int) then (if 0 ≤ i then (if ((text_Table.row x0 i).length : Int) > 16 then (none) else (text_Table.l3 k x0 ws ls i (⟨#[]⟩ : ByteArray) 0)) else (none)) else (some (ls, 0, 0))
def text_Table.l3 : Nat → List (List ByteArray) → List Int → List ByteArray → Int → ByteArray → Int → Option (List ByteArray × Int × Int)
  | 0, _, _, _, _, _, _ => none
  | k + 1, x0, ws, ls, i, s, j => if j < ((text_Table.row x0 i).length : Int) then (if 0 ≤ j then (if text_Table.ok s (rdOf ByteArray.empty (text_Table.row x0 i) j) then (if j < wrap64 ((text_Table.row x0 i).length - 1) then ((text_Width.f k (rdOf ByteArray.empty (text_Table.row x0 i) j)).bind fun q => ((strings_Repeat.f (⟨#[32]⟩ : ByteArray) (wrap64 (rd ws j - q))).bind fun sp => (if sp.size < 1000000000000 then (text_Table.l3 k x0 ws ls i (text_Table.head s j ++ (rdOf ByteArray.empty (text_Table.row x0 i) j ++ sp)) (wrap64 (j + 1))) else (none)))) else (text_Table.l3 k x0 ws ls i (text_Table.head s j ++ rdOf ByteArray.empty (text_Table.row x0 i) j) (wrap64 (j + 1)))) else (none)) else (none)) else (if ls.length < 8796093022208 then (text_Table.l2 k x0 ws (ls ++ [s]) (wrap64 (i + 1))) else (none))
end
def text_Table.f (k : Nat) (l0 : List (List ByteArray)) : Option (List ByteArray × Int × Int) := if (l0.length : Int) > 256 then (some (([] : List ByteArray), 0, 18)) else (text_Table.l0 k l0 (List.replicate 16 0) 0)
theorem text_Table.mono_l : ∀ k, (∀ y0 y1 y2, LeO (text_Table.l0 k y0 y1 y2) (text_Table.l0 (k + 1) y0 y1 y2)) ∧ (∀ y0 y1 y2 y3, LeO (text_Table.l1 k y0 y1 y2 y3) (text_Table.l1 (k + 1) y0 y1 y2 y3)) ∧ (∀ y0 y1 y2 y3, LeO (text_Table.l2 k y0 y1 y2 y3) (text_Table.l2 (k + 1) y0 y1 y2 y3)) ∧ (∀ y0 y1 y2 y3 y4 y5, LeO (text_Table.l3 k y0 y1 y2 y3 y4 y5) (text_Table.l3 (k + 1) y0 y1 y2 y3 y4 y5))
  | 0 => ⟨fun _ _ _ r h => by simp [text_Table.l0] at h, fun _ _ _ _ r h => by simp [text_Table.l1] at h, fun _ _ _ _ r h => by simp [text_Table.l2] at h, fun _ _ _ _ _ _ r h => by simp [text_Table.l3] at h⟩
  | k + 1 => by
    obtain ⟨ih0, ih1, ih2, ih3⟩ := text_Table.mono_l k
    refine ⟨fun y0 y1 y2 => ?_, fun y0 y1 y2 y3 => ?_, fun y0 y1 y2 y3 => ?_, fun y0 y1 y2 y3 y4 y5 => ?_⟩
    · unfold text_Table.l0
      repeat' first
        | (with_reducible exact ih0 _ _ _)
        | (with_reducible exact ih1 _ _ _ _)
        | (with_reducible exact ih2 _ _ _ _)
        | (with_reducible exact ih3 _ _ _ _ _ _)
        | (with_reducible exact text_fault.mono _ _)
        | (with_reducible exact text_Width.mono _ _)
        | (with_reducible exact LeO.refl _)
        | (with_reducible exact LeO.none _)
        | (with_reducible refine LeO.ite ?_ ?_)
        | (with_reducible refine LeO.bind ?_ (fun _ => ?_))
    · unfold text_Table.l1
      repeat' first
        | (with_reducible exact ih0 _ _ _)
        | (with_reducible exact ih1 _ _ _ _)
        | (with_reducible exact ih2 _ _ _ _)
        | (with_reducible exact ih3 _ _ _ _ _ _)
        | (with_reducible exact text_fault.mono _ _)
        | (with_reducible exact text_Width.mono _ _)
        | (with_reducible exact LeO.refl _)
        | (with_reducible exact LeO.none _)
        | (with_reducible refine LeO.ite ?_ ?_)
        | (with_reducible refine LeO.bind ?_ (fun _ => ?_))
    · unfold text_Table.l2
      repeat' first
        | (with_reducible exact ih0 _ _ _)
        | (with_reducible exact ih1 _ _ _ _)
        | (with_reducible exact ih2 _ _ _ _)
        | (with_reducible exact ih3 _ _ _ _ _ _)
        | (with_reducible exact text_fault.mono _ _)
        | (with_reducible exact text_Width.mono _ _)
        | (with_reducible exact LeO.refl _)
        | (with_reducible exact LeO.none _)
        | (with_reducible refine LeO.ite ?_ ?_)
        | (with_reducible refine LeO.bind ?_ (fun _ => ?_))
    · unfold text_Table.l3
      repeat' first
        | (with_reducible exact ih0 _ _ _)
        | (with_reducible exact ih1 _ _ _ _)
        | (with_reducible exact ih2 _ _ _ _)
        | (with_reducible exact ih3 _ _ _ _ _ _)
        | (with_reducible exact text_fault.mono _ _)
        | (with_reducible exact text_Width.mono _ _)
        | (with_reducible exact LeO.refl _)
        | (with_reducible exact LeO.none _)
        | (with_reducible refine LeO.ite ?_ ?_)
        | (with_reducible refine LeO.bind ?_ (fun _ => ?_))
theorem text_Table.mono : ∀ a0 k, LeO (text_Table.f k a0) (text_Table.f (k + 1) a0) := by
  intro a0 k
  obtain ⟨ih0, ih1, ih2, ih3⟩ := text_Table.mono_l k
  unfold text_Table.f
  exact LeO.ite (LeO.refl _) (ih0 _ _ _)
theorem tb_cell {W : World} {gw t : Nat} {ws : List Int} (h : W.heap[gw]? = some (.cells (ws.map (Value.int .i64)).toArray t (0, 0))) (j : Int) (h1 : j.toNat < ws.length) : W.cell? ⟨gw, j.toNat, none⟩ = some (.int .i64 (rd ws j)) := by
  rw [blk_cell h]
  simp [rd, h1]
theorem tb_set {ws : List Int} (j : Int) (v : Int) (h1 : j.toNat < ws.length) : (((ws.set j.toNat v).map (Value.int .i64)).toArray).toList = ((ws.map (Value.int .i64)).toArray).toList.take j.toNat ++ [Value.int .i64 v] ++ ((ws.map (Value.int .i64)).toArray).toList.drop (j.toNat + [Value.int .i64 v].length) := by
  simp only [List.map_set, List.length_singleton]
  rw [List.set_eq_take_append_cons_drop, if_pos (by simpa using h1)]
  simp
set_option maxHeartbeats 8000000 in
set_option maxRecDepth 100000 in
theorem text_Table.calls (k : Nat) (A0 : Option Addr) (c0 : Nat) (l0 : List (List ByteArray)) (r1 : List ByteArray) (r2 : Int) (r3 : Int) (w : World) (hr0 : Kd.C (Kd.slice 9 Kd.string) w A0 l0.length l0) (hc0 : l0.length ≤ c0) (h : text_Table.f k l0 = some (r1, r2, r3)) :
    Calls Try.prog 6 #[.slice A0 l0.length c0] w fun e w' => ∃ v0_ : Value, e = .returned (.tuple #[v0_, .int .i64 r2, .int .i64 r3]) ∧ Kd.R Kd.string 9 w' w.heap.size (fun _ => True) v0_ r1 ∧ Below w.heap.size w w' := by
  have HR0 := Aside0.mk hr0
  have HC0 := Aside0.mk hc0
  clear hr0 hc0
  have HB := Aside0.mk (Below.refl w.heap.size w)
  unfold text_Table.f at h
  by_cases c2 : (l0.length : Int) > 256
  · rw [if_pos c2] at h
    have c2b0 : decide (256 < (l0.length : Int)) = true := decide_eq_true c2
    have c2b1 : decide (256 < l0.length) = true := decide_eq_true (by omega)
    clear c2
    simp only [Option.some.injEq, Prod.mk.injEq] at h
    obtain ⟨rfl, rfl, rfl⟩ := h
    go_enter Try.func6, Try.ntmps6
    go_wp2
    go_ret3
    exact ⟨_, rfl, Kd.R_nil _ _ _ _ _, HB.out⟩
  · rw [if_neg c2] at h
    have c2b0 : decide (256 < (l0.length : Int)) = false := decide_eq_false c2
    have c2b1 : decide (256 < l0.length) = false := decide_eq_false (by omega)
    clear c2
    have H' := Aside0.mk h
    clear h
    go_enter Try.func6, Try.ntmps6
    go_wp2_with (((with_reducible refine gate_dst (N := 5) rfl ?_); (try (refine gate_guard (by rfl) ?_; dsimp only)); refine box_event (by rfl) (N := 5) (by rfl) (cs := #[.int .i64 0, .int .i64 0, .int .i64 0, .int .i64 0, .int .i64 0, .int .i64 0, .int .i64 0, .int .i64 0, .int .i64 0, .int .i64 0, .int .i64 0, .int .i64 0, .int .i64 0, .int .i64 0, .int .i64 0, .int .i64 0]) (t := 47) ?hrz2 ?_; (case hrz2 => first | (go_simp; done) | (go_simp; rfl)); intro gw hg_ wq1 hbox hb; have gw_G := gG_ hg_ HB; have gw_B := Aside0.mk hbox; have gw_0 : wq1.cell? ⟨gw, 0, none⟩ = some (.int .i64 0) := (blk_cell hbox 0).trans rfl; have gw_f0 := blk_frozen hbox 0; have gw_1 : wq1.cell? ⟨gw, 1, none⟩ = some (.int .i64 0) := (blk_cell hbox 1).trans rfl; have gw_f1 := blk_frozen hbox 1; have gw_2 : wq1.cell? ⟨gw, 2, none⟩ = some (.int .i64 0) := (blk_cell hbox 2).trans rfl; have gw_f2 := blk_frozen hbox 2; have gw_3 : wq1.cell? ⟨gw, 3, none⟩ = some (.int .i64 0) := (blk_cell hbox 3).trans rfl; have gw_f3 := blk_frozen hbox 3; have gw_4 : wq1.cell? ⟨gw, 4, none⟩ = some (.int .i64 0) := (blk_cell hbox 4).trans rfl; have gw_f4 := blk_frozen hbox 4; have gw_5 : wq1.cell? ⟨gw, 5, none⟩ = some (.int .i64 0) := (blk_cell hbox 5).trans rfl; have gw_f5 := blk_frozen hbox 5; have gw_6 : wq1.cell? ⟨gw, 6, none⟩ = some (.int .i64 0) := (blk_cell hbox 6).trans rfl; have gw_f6 := blk_frozen hbox 6; have gw_7 : wq1.cell? ⟨gw, 7, none⟩ = some (.int .i64 0) := (blk_cell hbox 7).trans rfl; have gw_f7 := blk_frozen hbox 7; have gw_8 : wq1.cell? ⟨gw, 8, none⟩ = some (.int .i64 0) := (blk_cell hbox 8).trans rfl; have gw_f8 := blk_frozen hbox 8; have gw_9 : wq1.cell? ⟨gw, 9, none⟩ = some (.int .i64 0) := (blk_cell hbox 9).trans rfl; have gw_f9 := blk_frozen hbox 9; have gw_10 : wq1.cell? ⟨gw, 10, none⟩ = some (.int .i64 0) := (blk_cell hbox 10).trans rfl; have gw_f10 := blk_frozen hbox 10; have gw_11 : wq1.cell? ⟨gw, 11, none⟩ = some (.int .i64 0) := (blk_cell hbox 11).trans rfl; have gw_f11 := blk_frozen hbox 11; have gw_12 : wq1.cell? ⟨gw, 12, none⟩ = some (.int .i64 0) := (blk_cell hbox 12).trans rfl; have gw_f12 := blk_frozen hbox 12; have gw_13 : wq1.cell? ⟨gw, 13, none⟩ = some (.int .i64 0) := (blk_cell hbox 13).trans rfl; have gw_f13 := blk_frozen hbox 13; have gw_14 : wq1.cell? ⟨gw, 14, none⟩ = some (.int .i64 0) := (blk_cell hbox 14).trans rfl; have gw_f14 := blk_frozen hbox 14; have gw_15 : wq1.cell? ⟨gw, 15, none⟩ = some (.int .i64 0) := (blk_cell hbox 15).trans rfl; have gw_f15 := blk_frozen hbox 15; replace HB := Aside0.mk (below_step HB.out hb); clear hbox hb hg_))
    have gw_L := Aside0.mk (show _ = some (Obj.cells ((List.replicate 16 (0 : Int)).map (Value.int .i64)).toArray 47 (0, 0)) from gw_B.out)
    clear gw_B gw_0 gw_f0 gw_1 gw_f1 gw_2 gw_f2 gw_3 gw_f3 gw_4 gw_f4 gw_5 gw_f5 gw_6 gw_f6 gw_7 gw_f7 gw_8 gw_f8 gw_9 gw_f9 gw_10 gw_f10 gw_11 gw_f11 gw_12 gw_f12 gw_13 gw_f13 gw_14 gw_f14 gw_15 gw_f15
    go_loopg [22] k (fun kq v22 w' => ∃ (ws : List Int) (x : Int), v22 = .int .i64 x ∧ Aside0 (text_Table.l0 kq l0 ws x = some (r1, r2, r3)) ∧ Aside0 (kq ≤ k) ∧ Aside0 (ws.length = 16) ∧ Aside0 (w'.heap[gw]? = some (.cells (ws.map (Value.int .i64)).toArray 47 (0, 0))) ∧ Aside0 (Below w.heap.size w w'))
    case atStart => exact ⟨List.replicate 16 0, 0, (by first | rfl | (simp; done) | (simp [*]; done)), H', ⟨Nat.le_refl _⟩, ⟨rfl⟩, gw_L, HB⟩
    case round =>
      clear H' HB gw_L
      try clear c2b0
      try clear c2b1
      obtain ⟨ws, x, rfl, HA, HK1, HW, gw_L, HB⟩ := hrel
      cases gk with
      | zero => exact absurd HA.out (by simp [text_Table.l0])
      | succ k1 =>
        have H := HA.out
        clear HA
        simp only [text_Table.l0] at H
        by_cases c3 : x < (l0.length : Int)
        · rw [if_pos c3] at H
          have c3b0 : decide (x < (l0.length : Int)) = true := decide_eq_true c3
          by_cases c4 : 0 ≤ x
          · rw [if_pos c4] at H
            have c4b0 : decide (0 ≤ x) = true := decide_eq_true c4
            obtain ⟨ad, Ar, cr, rfl, hx, hlr, hir⟩ := text_Table.at_ HR0.out x c4 c3
            replace hx := pw_cell_below HB.out hx
            have HRr := Aside0.mk hir
            have HCr := Aside0.mk hlr
            clear hir hlr
            have c3t := eq_true c3
            have c4t := eq_true c4
            clear c3 c4
            by_cases c5 : ((text_Table.row l0 x).length : Int) > 16
            · rw [if_pos c5] at H
              have c5b0 : decide (16 < ((text_Table.row l0 x).length : Int)) = true := decide_eq_true c5
              have c5b1 : decide (16 < (text_Table.row l0 x).length) = true := decide_eq_true (by omega)
              clear c5
              simp only [Option.some.injEq, Prod.mk.injEq] at H
              obtain ⟨rfl, rfl, rfl⟩ := H
              go_wp2
              go_ret3
              exact ⟨_, rfl, Kd.R_nil _ _ _ _ _, HB.out⟩
            · rw [if_neg c5] at H
              have c5b0 : decide (16 < ((text_Table.row l0 x).length : Int)) = false := decide_eq_false c5
              have c5b1 : decide (16 < (text_Table.row l0 x).length) = false := decide_eq_false (by omega)
              have HN := Aside0.mk (show (text_Table.row l0 x).length ≤ 16 by omega)
              clear c5
              have H' := Aside0.mk H
              clear H
              go_wp2
              go_loopg [33] k1 (fun kq v33 w' => ∃ (ws : List Int) (y : Int), v33 = .int .i64 y ∧ Aside0 (text_Table.l1 kq l0 ws x y = some (r1, r2, r3)) ∧ Aside0 (kq ≤ k1) ∧ Aside0 (ws.length = 16) ∧ Aside0 (w'.heap[gw]? = some (.cells (ws.map (Value.int .i64)).toArray 47 (0, 0))) ∧ Aside0 (Below w.heap.size w w'))
              case atStart => exact ⟨ws, 0, (by first | rfl | (simp; done) | (simp [*]; done)), H', ⟨Nat.le_refl _⟩, HW, gw_L, HB⟩
              case round =>
                clear H' HB gw_L HW
                try clear hx
                try clear c5b0
                try clear c5b1
                obtain ⟨ws, y, rfl, HA, HK2, HW, gw_L, HB⟩ := hrel
                cases gk with
                | zero => exact absurd HA.out (by simp [text_Table.l1])
                | succ k2 =>
                  have H := HA.out
                  clear HA
                  simp only [text_Table.l1] at H
                  by_cases c6 : y < ((text_Table.row l0 x).length : Int)
                  · rw [if_pos c6] at H
                    have c6b0 : decide (y < ((text_Table.row l0 x).length : Int)) = true := decide_eq_true c6
                    by_cases c7 : 0 ≤ y
                    · rw [if_pos c7] at H
                      obtain ⟨ad2, rfl, hy⟩ := text_Table.cell_ HRr.out y c7 c6
                      replace hy := pw_cell_below HB.out hy
                      generalize rdOf ByteArray.empty (text_Table.row l0 x) y = cel at H hy
                      have hj16 : y.toNat < ws.length := by have := HW.out; have := HN.out; omega
                      have c6t := eq_true c6
                      have c7t := eq_true c7
                      have c8t := eq_true (show y < 16 by have := HN.out; omega)
                      have HJ := Aside0.mk hj16
                      clear c6 c7 hj16
                      replace H := Option.bind_eq_some_iff.mp H
                      obtain ⟨ef, A1, H⟩ := H
                      have AF := Aside0.mk A1
                      clear A1
                      by_cases c9 : ef = 0
                      · subst c9
                        rw [if_pos rfl] at H
                        replace H := Option.bind_eq_some_iff.mp H
                        obtain ⟨n, A2, H⟩ := H
                        have AW := Aside0.mk A2
                        have H' := Aside0.mk H
                        clear A2 H
                        have gw_c := tb_cell gw_L.out y HJ.out
                        go_wp2_with ((go_at_call 15; refine (text_fault.calls _ cel 0 _ AF.out).mono ?_; rintro e wq3 ⟨rfl, hb⟩; replace hy := pw_cell_below hb hy; replace gw_c := pw_cell_below hb gw_c; replace gw_L := Aside0.mk (blk_below gw_L.out hb); replace HB := Aside0.mk (below_step HB.out hb); clear hb))
                        
                        refine start_w (n := 9) (S := fun w' => w'.cell? ⟨gw, y.toNat, none⟩ = some (.int .i64 (rd ws y))) (ds := [8]) (bl_ 9 0) (by kernel_rfl) rfl rfl ?_
                        intro wq5 hb
                        replace gw_c := pw_cell_below hb gw_c
                        replace gw_L := Aside0.mk (blk_below gw_L.out hb)
                        replace HB := Aside0.mk (below_step HB.out hb)
                        clear hb
                        refine pure_ (i := 0) (N := (some 44)) (v := ?_) (a' := ?_) (bl_ 9 1) rfl rfl (by kernel_rfl) (fun _ _ _ h => h) (Or.inl ⟨by rfl, ?_⟩) ?_ ?_
                        rotate_left
                        · intro w'; go_simp; with_reducible rfl
                        rotate_left
                        · simp only [Act.put, List.setIfInBounds_toArray, List.set_cons_zero, List.set_cons_succ, i64_w, i32_w]; rfl
                        refine pure_ (i := 1) (N := (some 45)) (v := ?_) (a' := ?_) (bl_ 9 3) rfl rfl (by kernel_rfl) (fun _ _ _ h => h) (Or.inl ⟨by rfl, ?_⟩) ?_ ?_
                        rotate_left
                        · intro w'; go_simp; with_reducible rfl
                        rotate_left
                        · simp only [Act.put, List.setIfInBounds_toArray, List.set_cons_zero, List.set_cons_succ, i64_w, i32_w]; rfl
                        refine pure_ (i := 2) (N := (some 46)) (v := ?_) (a' := ?_) (bl_ 9 7) rfl rfl (by kernel_rfl) (fun _ _ _ h => h) (Or.inl ⟨by rfl, ?_⟩) ?_ ?_
                        rotate_left
                        · intro w'; go_simp; with_reducible rfl
                        rotate_left
                        · simp only [Act.put, List.setIfInBounds_toArray, List.set_cons_zero, List.set_cons_succ, i64_w, i32_w]; rfl
                        refine pure_ (i := 4) (N := (some 48)) (v := ?_) (a' := ?_) (bl_ 9 23) rfl rfl (by kernel_rfl) (fun _ _ _ h => h) (Or.inl ⟨by rfl, ?_⟩) ?_ ?_
                        rotate_left
                        · intro w'; go_simp; with_reducible rfl
                        rotate_left
                        · simp only [Act.put, List.setIfInBounds_toArray, List.set_cons_zero, List.set_cons_succ, i64_w, i32_w]; rfl
                        refine take_ (i := 3) (N := (some 47)) (v := ?_) (a' := ?_) (bl_ 9 31) rfl rfl (by kernel_rfl) (fun _ _ _ h => h) (Or.inl ⟨by rfl, ?_⟩) gw_c ?_ ?_
                        rotate_left
                        · rintro w' s_0; go_simp; with_reducible rfl
                        rotate_left
                        · simp only [Act.put, List.setIfInBounds_toArray, List.set_cons_zero, List.set_cons_succ, i64_w, i32_w]; rfl
                        refine one_ (i := 5) (N := (some 49)) (bl_ 9 63) rfl rfl (by kernel_rfl) (by decide) (fun K hK => ?_)
                        refine goes_ Try.func16 (by kernel_rfl) rfl ?arz6 (by rfl) rfl rfl ?harz6 ?hcz6
                        case' hcz6 => (with_reducible refine (text_Width.calls _ cel n _ AW.out).mono ?_)
                        rotate_left
                        · first | rfl | (simp only [List.map_toArray, List.map_cons, List.map_nil]; rfl)
                        rintro e wq7 ⟨rfl, hb⟩
                        replace gw_c := pw_cell_below hb gw_c
                        replace gw_L := Aside0.mk (blk_below gw_L.out hb)
                        replace HB := Aside0.mk (below_step HB.out hb)
                        clear hb
                        refine ⟨_, rfl, ?_⟩
                        refine hK.out _ _ gw_c (fun _ => ?_)
                        clear hK K
                        refine norm_ (a' := ?_) ?_ ?_
                        rotate_left
                        · show Act.put _ (some 49) _ = _; simp only [Act.put, List.setIfInBounds_toArray, List.set_cons_zero, List.set_cons_succ, i64_w, i32_w]; rfl
                        refine pure_ (i := 6) (N := (some 50)) (v := ?_) (a' := ?_) (bl_ 9 127) rfl rfl (by kernel_rfl) (fun _ _ _ h => h) (Or.inl ⟨by rfl, ?_⟩) ?_ ?_
                        rotate_left
                        · intro w'; go_simp; with_reducible rfl
                        rotate_left
                        · simp only [Act.put, List.setIfInBounds_toArray, List.set_cons_zero, List.set_cons_succ, i64_w, i32_w]; rfl
                        refine pure_ (i := 7) (N := (some 51)) (v := ?_) (a' := ?_) (bl_ 9 255) rfl rfl (by kernel_rfl) (fun _ _ _ h => h) (Or.inl ⟨by rfl, ?_⟩) ?_ ?_
                        rotate_left
                        · intro w'; go_simp; with_reducible rfl
                        rotate_left
                        · simp only [Act.put, List.setIfInBounds_toArray, List.set_cons_zero, List.set_cons_succ, i64_w, i32_w]; rfl
                        refine last_ (i := 8) (N := none) (bl_ 9 511) rfl rfl (by kernel_rfl) (by decide) (fun K hK => ?_)
                        refine st_step (p := 51) (g := gw) (o' := y.toNat) (seg := [.int .i64 (mx (rd ws y) n)]) (new := ((ws.set y.toNat (mx (rd ws y) n)).map (Value.int .i64)).toArray) ?ttz10 ?xxz10 ?uuz10 (by rfl) ?hNz10 ?hoz10 ?haz10 ?hxz10 ?huz10 ?htz10 ?h1z10 gw_L.out ?hfz10 ?hnz10 ?_
                        (case hNz10 => rfl)
                        (case hoz10 => rfl)
                        (case haz10 => first | rfl | (go_simp; done) | (go_simp; rfl))
                        (case hxz10 => first | rfl | (go_simp; done) | (go_simp; rfl))
                        (case huz10 => rfl)
                        (case htz10 => kernel_rfl)
                        (case h1z10 => rfl)
                        (case hfz10 => (have := HJ.out; simp; omega))
                        (case hnz10 => exact tb_set y _ HJ.out)
                        intro wq9 hbox hO
                        replace gw_L := Aside0.mk hbox
                        replace HB := Aside0.mk (hO.below HB.out gw_G.out)
                        clear hbox hO
                        refine hK.out _ _ ?_
                        clear hK K
                        refine norm_ (a' := ?_) ?_ ?_
                        rotate_left
                        · rfl
                        refine done_ (by kernel_rfl) ?_
                        clear gw_c
                        go_wp2
                        all_goals
                         go_roundg k2
                         case measure => have := HK1.out; have := HK2.out; omega
                         case rel => exact ⟨ws.set y.toNat (mx (rd ws y) n), wrap64 (y + 1), (by first | rfl | (simp; done) | (simp [*]; done)), H', ⟨by have := HK1.out; have := HK2.out; omega⟩, ⟨by rw [List.length_set]; exact HW.out⟩, gw_L, HB⟩
                      · rw [if_neg c9] at H
                        simp only [Option.some.injEq, Prod.mk.injEq] at H
                        obtain ⟨rfl, rfl, rfl⟩ := H
                        have c9b0 : (ef != 0) = true := by simpa using c9
                        clear c9
                        go_wp2_with ((go_at_call 15; refine (text_fault.calls _ cel ef _ AF.out).mono ?_; rintro e wq11 ⟨rfl, hb⟩; replace hy := pw_cell_below hb hy; replace HB := Aside0.mk (below_step HB.out hb); clear hb))
                        go_ret3
                        exact ⟨_, rfl, Kd.R_nil _ _ _ _ _, HB.out⟩
                    · rw [if_neg c7] at H
                      exact absurd H (by simp)
                  · rw [if_neg c6] at H
                    have c6b0 : decide (y < ((text_Table.row l0 x).length : Int)) = false := decide_eq_false c6
                    clear c6
                    have H' := Aside0.mk H
                    clear H
                    go_wp2
                    go_roundg k2
                    case measure => have := HK1.out; have := HK2.out; omega
                    case rel => exact ⟨ws, wrap64 (x + 1), (by first | rfl | (simp; done) | (simp [*]; done)), H', ⟨by have := HK1.out; have := HK2.out; omega⟩, HW, gw_L, HB⟩
          · rw [if_neg c4] at H
            exact absurd H (by simp)
        · rw [if_neg c3] at H
          have c3b0 : decide (x < (l0.length : Int)) = false := decide_eq_false c3
          clear c3
          have H' := Aside0.mk H
          clear H
          go_wp2
          go_loopg [11, 56] k1 (fun kq v11 v56 w' => ∃ (ls : List ByteArray) (x : Int), v56 = .int .i64 x ∧ Aside0 (text_Table.l2 kq l0 ws ls x = some (r1, r2, r3)) ∧ Aside0 (kq ≤ k1) ∧ Aside0 (w'.heap[gw]? = some (.cells (ws.map (Value.int .i64)).toArray 47 (0, 0))) ∧ Aside0 (text_Table.RowAt w' w.heap.size gw v11 ls) ∧ Aside0 (Below w.heap.size w w'))
          case atStart => exact ⟨[], 0, (by first | rfl | (simp; done) | (simp [*]; done)), H', ⟨Nat.le_refl _⟩, gw_L, ⟨Kd.R_nil _ _ _ _ _⟩, HB⟩
          case round =>
            clear H' HB gw_L
            try clear c3b0
            obtain ⟨ls, x, rfl, HA, HK2, gw_L, HO, HB⟩ := hrel
            cases gk with
            | zero => exact absurd HA.out (by simp [text_Table.l2])
            | succ k2 =>
              have H := HA.out
              clear HA
              simp only [text_Table.l2] at H
              by_cases c3 : x < (l0.length : Int)
              · rw [if_pos c3] at H
                have c3b0 : decide (x < (l0.length : Int)) = true := decide_eq_true c3
                by_cases c4 : 0 ≤ x
                · rw [if_pos c4] at H
                  obtain ⟨ad, Ar, cr, rfl, hx, hlr, hir⟩ := text_Table.at_ HR0.out x c4 c3
                  replace hx := pw_cell_below HB.out hx
                  have HRr := Aside0.mk hir
                  have HCr := Aside0.mk hlr
                  clear hir hlr
                  have c3t := eq_true c3
                  have c4t := eq_true c4
                  clear c3 c4
                  by_cases c5 : ((text_Table.row l0 x).length : Int) > 16
                  · rw [if_pos c5] at H
                    exact absurd H (by simp)
                  · rw [if_neg c5] at H
                    have HN := Aside0.mk (show (text_Table.row l0 x).length ≤ 16 by omega)
                    clear c5
                    have H' := Aside0.mk H
                    clear H
                    go_wp2
                    go_loopg [14, 62] k2 (fun kq v14 v62 w' => ∃ (s : ByteArray) (y : Int), v14 = .string s ∧ v62 = .int .i64 y ∧ Aside0 (text_Table.l3 kq l0 ws ls x s y = some (r1, r2, r3)) ∧ Aside0 (kq ≤ k2) ∧ Aside0 (w'.heap[gw]? = some (.cells (ws.map (Value.int .i64)).toArray 47 (0, 0))) ∧ Aside0 (text_Table.RowAt w' w.heap.size gw u11 ls) ∧ Aside0 (Below w.heap.size w w'))
                    case atStart => exact ⟨(⟨#[]⟩ : ByteArray), 0, rfl, (by first | rfl | (simp; done) | (simp [*]; done)), H', ⟨Nat.le_refl _⟩, gw_L, HO, HB⟩
                    case round =>
                      clear H' HB gw_L HO
                      try clear hx
                      obtain ⟨s, y, rfl, rfl, HA, HK3, gw_L, HO, HB⟩ := hrel
                      cases gk with
                      | zero => exact absurd HA.out (by simp [text_Table.l3])
                      | succ k3 =>
                        have H := HA.out
                        clear HA
                        simp only [text_Table.l3] at H
                        by_cases c6 : y < ((text_Table.row l0 x).length : Int)
                        · rw [if_pos c6] at H
                          have c6b0 : decide (y < ((text_Table.row l0 x).length : Int)) = true := decide_eq_true c6
                          by_cases c7 : 0 ≤ y
                          · rw [if_pos c7] at H
                            obtain ⟨ad2, rfl, hy⟩ := text_Table.cell_ HRr.out y c7 c6
                            replace hy := pw_cell_below HB.out hy
                            generalize rdOf ByteArray.empty (text_Table.row l0 x) y = cel at H hy
                            have HJ := Aside0.mk (show y.toNat < ws.length by have := HW.out; have := HN.out; omega)
                            have c6t := eq_true c6
                            have c7t := eq_true c7
                            have c16t := eq_true (show y < 16 by have := HN.out; omega)
                            clear c6 c7
                            by_cases hok : text_Table.ok s cel
                            · rw [if_pos hok] at H
                              by_cases c8 : 0 < y
                              · by_cases c9 : y < wrap64 ((text_Table.row l0 x).length - 1)
                                · skip
                                  have hh : text_Table.head s y = s ++ (⟨#[32, 32]⟩ : ByteArray) := if_pos c8
                                  rw [hh] at H
                                  clear hh
                                  have c8b0 : decide (0 < y) = true := decide_eq_true c8
                                  clear c8
                                  rw [if_pos c9] at H
                                  have c9b0 : decide (y < wrap64 ((text_Table.row l0 x).length - 1)) = true := decide_eq_true c9
                                  have c9b1 : decide (y < ((text_Table.row l0 x).length : Int) - 1) = true := decide_eq_true (by have := HN.out; unfold wrap64 at c9; omega)
                                  clear c9
                                  replace H := Option.bind_eq_some_iff.mp H
                                  obtain ⟨q, A1, H⟩ := H
                                  replace H := Option.bind_eq_some_iff.mp H
                                  obtain ⟨sp, A2, H⟩ := H
                                  by_cases c10 : sp.size < 1000000000000
                                  · rw [if_pos c10] at H
                                    have z0a : decide (s.size + 2 ≤ 9223372036854775807) = true := decide_eq_true (by have := hok.1; have := hok.2; have d_ : (⟨#[32, 32]⟩ : ByteArray).size = 2 := rfl; have := c10; omega)
                                    have z0b : (9223372036854775807 < s.size + 2) = False := eq_false (by have := hok.1; have := hok.2; have d_ : (⟨#[32, 32]⟩ : ByteArray).size = 2 := rfl; have := c10; omega)
                                    have z1a : decide (s.size + (⟨#[32, 32]⟩ : ByteArray).size ≤ 9223372036854775807) = true := decide_eq_true (by have := hok.1; have := hok.2; have d_ : (⟨#[32, 32]⟩ : ByteArray).size = 2 := rfl; have := c10; omega)
                                    have z1b : (9223372036854775807 < s.size + (⟨#[32, 32]⟩ : ByteArray).size) = False := eq_false (by have := hok.1; have := hok.2; have d_ : (⟨#[32, 32]⟩ : ByteArray).size = 2 := rfl; have := c10; omega)
                                    have z2a : decide (cel.size + sp.size ≤ 9223372036854775807) = true := decide_eq_true (by have := hok.1; have := hok.2; have d_ : (⟨#[32, 32]⟩ : ByteArray).size = 2 := rfl; have := c10; omega)
                                    have z2b : (9223372036854775807 < cel.size + sp.size) = False := eq_false (by have := hok.1; have := hok.2; have d_ : (⟨#[32, 32]⟩ : ByteArray).size = 2 := rfl; have := c10; omega)
                                    have z3a : decide (s.size + 2 + (cel.size + sp.size) ≤ 9223372036854775807) = true := decide_eq_true (by have := hok.1; have := hok.2; have d_ : (⟨#[32, 32]⟩ : ByteArray).size = 2 := rfl; have := c10; omega)
                                    have z3b : (9223372036854775807 < s.size + 2 + (cel.size + sp.size)) = False := eq_false (by have := hok.1; have := hok.2; have d_ : (⟨#[32, 32]⟩ : ByteArray).size = 2 := rfl; have := c10; omega)
                                    have z4a : decide (s.size + (⟨#[32, 32]⟩ : ByteArray).size + (cel.size + sp.size) ≤ 9223372036854775807) = true := decide_eq_true (by have := hok.1; have := hok.2; have d_ : (⟨#[32, 32]⟩ : ByteArray).size = 2 := rfl; have := c10; omega)
                                    have z4b : (9223372036854775807 < s.size + (⟨#[32, 32]⟩ : ByteArray).size + (cel.size + sp.size)) = False := eq_false (by have := hok.1; have := hok.2; have d_ : (⟨#[32, 32]⟩ : ByteArray).size = 2 := rfl; have := c10; omega)
                                    have z5a : decide (s.size + (cel.size + sp.size) ≤ 9223372036854775807) = true := decide_eq_true (by have := hok.1; have := hok.2; have d_ : (⟨#[32, 32]⟩ : ByteArray).size = 2 := rfl; have := c10; omega)
                                    have z5b : (9223372036854775807 < s.size + (cel.size + sp.size)) = False := eq_false (by have := hok.1; have := hok.2; have d_ : (⟨#[32, 32]⟩ : ByteArray).size = 2 := rfl; have := c10; omega)
                                    clear hok c10
                                    have H' := Aside0.mk H
                                    clear H
                                    have AW := Aside0.mk A1
                                    have AR := Aside0.mk A2
                                    clear A1 A2
                                    have gw_c := tb_cell gw_L.out y HJ.out
                                    go_wp2
                                    
                                    refine start_w (n := 10) (S := fun w' => w'.cell? ⟨gw, y.toNat, none⟩ = some (.int .i64 (rd ws y))) (ds := []) (bl_ 10 0) (by kernel_rfl) rfl rfl ?_
                                    intro wq13 hb
                                    replace gw_c := pw_cell_below hb gw_c
                                    replace gw_L := Aside0.mk (blk_below gw_L.out hb)
                                    replace HO := Aside0.mk (HO.out.below hb)
                                    replace HB := Aside0.mk (below_step HB.out hb)
                                    clear hb
                                    refine pure_ (i := 0) (N := (some 76)) (v := ?_) (a' := ?_) (bl_ 10 1) rfl rfl (by kernel_rfl) (fun _ _ _ h => h) (Or.inl ⟨by rfl, ?_⟩) ?_ ?_
                                    rotate_left
                                    · intro w'; go_simp; with_reducible rfl
                                    rotate_left
                                    · simp only [Act.put, List.setIfInBounds_toArray, List.set_cons_zero, List.set_cons_succ, i64_w, i32_w]; rfl
                                    refine pure_ (i := 1) (N := (some 77)) (v := ?_) (a' := ?_) (bl_ 10 3) rfl rfl (by kernel_rfl) (fun _ _ _ h => h) (Or.inl ⟨by rfl, ?_⟩) ?_ ?_
                                    rotate_left
                                    · intro w'; go_simp; with_reducible rfl
                                    rotate_left
                                    · simp only [Act.put, List.setIfInBounds_toArray, List.set_cons_zero, List.set_cons_succ, i64_w, i32_w]; rfl
                                    refine pure_ (i := 2) (N := (some 78)) (v := ?_) (a' := ?_) (bl_ 10 7) rfl rfl (by kernel_rfl) (fun _ _ _ h => h) (Or.inl ⟨by rfl, ?_⟩) ?_ ?_
                                    rotate_left
                                    · intro w'; go_simp; with_reducible rfl
                                    rotate_left
                                    · simp only [Act.put, List.setIfInBounds_toArray, List.set_cons_zero, List.set_cons_succ, i64_w, i32_w]; rfl
                                    refine pure_ (i := 4) (N := (some 80)) (v := ?_) (a' := ?_) (bl_ 10 23) rfl rfl (by kernel_rfl) (fun _ _ _ h => h) (Or.inl ⟨by rfl, ?_⟩) ?_ ?_
                                    rotate_left
                                    · intro w'; go_simp; with_reducible rfl
                                    rotate_left
                                    · simp only [Act.put, List.setIfInBounds_toArray, List.set_cons_zero, List.set_cons_succ, i64_w, i32_w]; rfl
                                    refine take_ (i := 3) (N := (some 79)) (v := ?_) (a' := ?_) (bl_ 10 31) rfl rfl (by kernel_rfl) (fun _ _ _ h => h) (Or.inl ⟨by rfl, ?_⟩) gw_c ?_ ?_
                                    rotate_left
                                    · rintro w' s_0; go_simp; with_reducible rfl
                                    rotate_left
                                    · simp only [Act.put, List.setIfInBounds_toArray, List.set_cons_zero, List.set_cons_succ, i64_w, i32_w]; rfl
                                    refine one_ (i := 5) (N := (some 81)) (bl_ 10 63) rfl rfl (by kernel_rfl) (by decide) (fun K hK => ?_)
                                    refine goes_ Try.func16 (by kernel_rfl) rfl ?arz14 (by rfl) rfl rfl ?harz14 ?hcz14
                                    case' hcz14 => (with_reducible refine (text_Width.calls _ cel q _ AW.out).mono ?_)
                                    rotate_left
                                    · first | rfl | (simp only [List.map_toArray, List.map_cons, List.map_nil]; rfl)
                                    rintro e wq15 ⟨rfl, hb⟩
                                    replace gw_c := pw_cell_below hb gw_c
                                    replace gw_L := Aside0.mk (blk_below gw_L.out hb)
                                    replace HO := Aside0.mk (HO.out.below hb)
                                    replace HB := Aside0.mk (below_step HB.out hb)
                                    clear hb
                                    refine ⟨_, rfl, ?_⟩
                                    refine hK.out _ _ gw_c (fun _ => ?_)
                                    clear hK K
                                    refine norm_ (a' := ?_) ?_ ?_
                                    rotate_left
                                    · show Act.put _ (some 81) _ = _; simp only [Act.put, List.setIfInBounds_toArray, List.set_cons_zero, List.set_cons_succ, i64_w, i32_w]; rfl
                                    refine pure_ (i := 6) (N := (some 82)) (v := ?_) (a' := ?_) (bl_ 10 127) rfl rfl (by kernel_rfl) (fun _ _ _ h => h) (Or.inl ⟨by rfl, ?_⟩) ?_ ?_
                                    rotate_left
                                    · intro w'; go_simp; with_reducible rfl
                                    rotate_left
                                    · simp only [Act.put, List.setIfInBounds_toArray, List.set_cons_zero, List.set_cons_succ, i64_w, i32_w]; rfl
                                    refine one_ (i := 7) (N := (some 83)) (bl_ 10 255) rfl rfl (by kernel_rfl) (by decide) (fun K hK => ?_)
                                    refine goes_ Try.func17 (by kernel_rfl) rfl ?arz17 (by rfl) rfl rfl ?harz17 ?hcz17
                                    case' hcz17 => (with_reducible refine (strings_Repeat.calls (⟨#[32]⟩ : ByteArray) (wrap64 (rd ws y - q)) sp _ AR.out).mono ?_)
                                    rotate_left
                                    · first | rfl | (simp only [List.map_toArray, List.map_cons, List.map_nil]; rfl)
                                    rintro e wq18 ⟨rfl, hb⟩
                                    replace gw_c := pw_cell_below hb gw_c
                                    replace gw_L := Aside0.mk (blk_below gw_L.out hb)
                                    replace HO := Aside0.mk (HO.out.below hb)
                                    replace HB := Aside0.mk (below_step HB.out hb)
                                    clear hb
                                    refine ⟨_, rfl, ?_⟩
                                    refine hK.out _ _ gw_c (fun _ => ?_)
                                    clear hK K
                                    refine norm_ (a' := ?_) ?_ ?_
                                    rotate_left
                                    · show Act.put _ (some 83) _ = _; simp only [Act.put, List.setIfInBounds_toArray, List.set_cons_zero, List.set_cons_succ, i64_w, i32_w]; rfl
                                    refine pure_ (i := 8) (N := (some 84)) (v := ?_) (a' := ?_) (bl_ 10 511) rfl rfl (by kernel_rfl) (fun _ _ _ h => h) (Or.inl ⟨by rfl, ?_⟩) ?_ ?_
                                    rotate_left
                                    · intro w'; go_simp; with_reducible rfl
                                    rotate_left
                                    · simp only [Act.put, List.setIfInBounds_toArray, List.set_cons_zero, List.set_cons_succ, i64_w, i32_w]; rfl
                                    refine pure_ (i := 9) (N := (some 16)) (v := ?_) (a' := ?_) (bl_ 10 1023) rfl rfl (by kernel_rfl) (fun _ _ _ h => h) (Or.inl ⟨by rfl, ?_⟩) ?_ ?_
                                    rotate_left
                                    · intro w'; go_simp; with_reducible rfl
                                    rotate_left
                                    · simp only [Act.put, List.setIfInBounds_toArray, List.set_cons_zero, List.set_cons_succ, i64_w, i32_w]; rfl
                                    refine done_ (by kernel_rfl) ?_
                                    clear gw_c
                                    go_wp2
                                    go_roundg k3
                                    case measure => have := HK1.out; have := HK2.out; have := HK3.out; omega
                                    case rel => exact ⟨_, wrap64 (y + 1), rfl, (by first | rfl | (simp; done) | (simp [*]; done)), H', ⟨by have := HK1.out; have := HK2.out; have := HK3.out; omega⟩, gw_L, HO, HB⟩
                                  · rw [if_neg c10] at H
                                    exact absurd H (by simp)
                                · skip
                                  have hh : text_Table.head s y = s ++ (⟨#[32, 32]⟩ : ByteArray) := if_pos c8
                                  rw [hh] at H
                                  clear hh
                                  have c8b0 : decide (0 < y) = true := decide_eq_true c8
                                  clear c8
                                  rw [if_neg c9] at H
                                  have c9b0 : decide (y < wrap64 ((text_Table.row l0 x).length - 1)) = false := decide_eq_false c9
                                  have c9b1 : decide (y < ((text_Table.row l0 x).length : Int) - 1) = false := decide_eq_false (by have := HN.out; unfold wrap64 at c9; omega)
                                  clear c9
                                  have z0a : decide (s.size + 2 ≤ 9223372036854775807) = true := decide_eq_true (by have := hok.1; have := hok.2; have d_ : (⟨#[32, 32]⟩ : ByteArray).size = 2 := rfl; omega)
                                  have z0b : (9223372036854775807 < s.size + 2) = False := eq_false (by have := hok.1; have := hok.2; have d_ : (⟨#[32, 32]⟩ : ByteArray).size = 2 := rfl; omega)
                                  have z1a : decide (s.size + (⟨#[32, 32]⟩ : ByteArray).size ≤ 9223372036854775807) = true := decide_eq_true (by have := hok.1; have := hok.2; have d_ : (⟨#[32, 32]⟩ : ByteArray).size = 2 := rfl; omega)
                                  have z1b : (9223372036854775807 < s.size + (⟨#[32, 32]⟩ : ByteArray).size) = False := eq_false (by have := hok.1; have := hok.2; have d_ : (⟨#[32, 32]⟩ : ByteArray).size = 2 := rfl; omega)
                                  have z2a : decide (s.size + 2 + cel.size ≤ 9223372036854775807) = true := decide_eq_true (by have := hok.1; have := hok.2; have d_ : (⟨#[32, 32]⟩ : ByteArray).size = 2 := rfl; omega)
                                  have z2b : (9223372036854775807 < s.size + 2 + cel.size) = False := eq_false (by have := hok.1; have := hok.2; have d_ : (⟨#[32, 32]⟩ : ByteArray).size = 2 := rfl; omega)
                                  have z3a : decide (s.size + (⟨#[32, 32]⟩ : ByteArray).size + cel.size ≤ 9223372036854775807) = true := decide_eq_true (by have := hok.1; have := hok.2; have d_ : (⟨#[32, 32]⟩ : ByteArray).size = 2 := rfl; omega)
                                  have z3b : (9223372036854775807 < s.size + (⟨#[32, 32]⟩ : ByteArray).size + cel.size) = False := eq_false (by have := hok.1; have := hok.2; have d_ : (⟨#[32, 32]⟩ : ByteArray).size = 2 := rfl; omega)
                                  have z4a : decide (s.size + cel.size ≤ 9223372036854775807) = true := decide_eq_true (by have := hok.1; have := hok.2; have d_ : (⟨#[32, 32]⟩ : ByteArray).size = 2 := rfl; omega)
                                  have z4b : (9223372036854775807 < s.size + cel.size) = False := eq_false (by have := hok.1; have := hok.2; have d_ : (⟨#[32, 32]⟩ : ByteArray).size = 2 := rfl; omega)
                                  clear hok
                                  have H' := Aside0.mk H
                                  clear H
                                  go_wp2
                                  go_roundg k3
                                  case measure => have := HK1.out; have := HK2.out; have := HK3.out; omega
                                  case rel => exact ⟨_, wrap64 (y + 1), rfl, (by first | rfl | (simp; done) | (simp [*]; done)), H', ⟨by have := HK1.out; have := HK2.out; have := HK3.out; omega⟩, gw_L, HO, HB⟩
                              · by_cases c9 : y < wrap64 ((text_Table.row l0 x).length - 1)
                                · skip
                                  have hh : text_Table.head s y = s := if_neg c8
                                  rw [hh] at H
                                  clear hh
                                  have c8b0 : decide (0 < y) = false := decide_eq_false c8
                                  clear c8
                                  rw [if_pos c9] at H
                                  have c9b0 : decide (y < wrap64 ((text_Table.row l0 x).length - 1)) = true := decide_eq_true c9
                                  have c9b1 : decide (y < ((text_Table.row l0 x).length : Int) - 1) = true := decide_eq_true (by have := HN.out; unfold wrap64 at c9; omega)
                                  clear c9
                                  replace H := Option.bind_eq_some_iff.mp H
                                  obtain ⟨q, A1, H⟩ := H
                                  replace H := Option.bind_eq_some_iff.mp H
                                  obtain ⟨sp, A2, H⟩ := H
                                  by_cases c10 : sp.size < 1000000000000
                                  · rw [if_pos c10] at H
                                    have z0a : decide (cel.size + sp.size ≤ 9223372036854775807) = true := decide_eq_true (by have := hok.1; have := hok.2; have d_ : (⟨#[32, 32]⟩ : ByteArray).size = 2 := rfl; have := c10; omega)
                                    have z0b : (9223372036854775807 < cel.size + sp.size) = False := eq_false (by have := hok.1; have := hok.2; have d_ : (⟨#[32, 32]⟩ : ByteArray).size = 2 := rfl; have := c10; omega)
                                    have z1a : decide (s.size + (cel.size + sp.size) ≤ 9223372036854775807) = true := decide_eq_true (by have := hok.1; have := hok.2; have d_ : (⟨#[32, 32]⟩ : ByteArray).size = 2 := rfl; have := c10; omega)
                                    have z1b : (9223372036854775807 < s.size + (cel.size + sp.size)) = False := eq_false (by have := hok.1; have := hok.2; have d_ : (⟨#[32, 32]⟩ : ByteArray).size = 2 := rfl; have := c10; omega)
                                    clear hok c10
                                    have H' := Aside0.mk H
                                    clear H
                                    have AW := Aside0.mk A1
                                    have AR := Aside0.mk A2
                                    clear A1 A2
                                    have gw_c := tb_cell gw_L.out y HJ.out
                                    go_wp2
                                    
                                    refine start_w (n := 10) (S := fun w' => w'.cell? ⟨gw, y.toNat, none⟩ = some (.int .i64 (rd ws y))) (ds := []) (bl_ 10 0) (by kernel_rfl) rfl rfl ?_
                                    intro wq20 hb
                                    replace gw_c := pw_cell_below hb gw_c
                                    replace gw_L := Aside0.mk (blk_below gw_L.out hb)
                                    replace HO := Aside0.mk (HO.out.below hb)
                                    replace HB := Aside0.mk (below_step HB.out hb)
                                    clear hb
                                    refine pure_ (i := 0) (N := (some 76)) (v := ?_) (a' := ?_) (bl_ 10 1) rfl rfl (by kernel_rfl) (fun _ _ _ h => h) (Or.inl ⟨by rfl, ?_⟩) ?_ ?_
                                    rotate_left
                                    · intro w'; go_simp; with_reducible rfl
                                    rotate_left
                                    · simp only [Act.put, List.setIfInBounds_toArray, List.set_cons_zero, List.set_cons_succ, i64_w, i32_w]; rfl
                                    refine pure_ (i := 1) (N := (some 77)) (v := ?_) (a' := ?_) (bl_ 10 3) rfl rfl (by kernel_rfl) (fun _ _ _ h => h) (Or.inl ⟨by rfl, ?_⟩) ?_ ?_
                                    rotate_left
                                    · intro w'; go_simp; with_reducible rfl
                                    rotate_left
                                    · simp only [Act.put, List.setIfInBounds_toArray, List.set_cons_zero, List.set_cons_succ, i64_w, i32_w]; rfl
                                    refine pure_ (i := 2) (N := (some 78)) (v := ?_) (a' := ?_) (bl_ 10 7) rfl rfl (by kernel_rfl) (fun _ _ _ h => h) (Or.inl ⟨by rfl, ?_⟩) ?_ ?_
                                    rotate_left
                                    · intro w'; go_simp; with_reducible rfl
                                    rotate_left
                                    · simp only [Act.put, List.setIfInBounds_toArray, List.set_cons_zero, List.set_cons_succ, i64_w, i32_w]; rfl
                                    refine pure_ (i := 4) (N := (some 80)) (v := ?_) (a' := ?_) (bl_ 10 23) rfl rfl (by kernel_rfl) (fun _ _ _ h => h) (Or.inl ⟨by rfl, ?_⟩) ?_ ?_
                                    rotate_left
                                    · intro w'; go_simp; with_reducible rfl
                                    rotate_left
                                    · simp only [Act.put, List.setIfInBounds_toArray, List.set_cons_zero, List.set_cons_succ, i64_w, i32_w]; rfl
                                    refine take_ (i := 3) (N := (some 79)) (v := ?_) (a' := ?_) (bl_ 10 31) rfl rfl (by kernel_rfl) (fun _ _ _ h => h) (Or.inl ⟨by rfl, ?_⟩) gw_c ?_ ?_
                                    rotate_left
                                    · rintro w' s_0; go_simp; with_reducible rfl
                                    rotate_left
                                    · simp only [Act.put, List.setIfInBounds_toArray, List.set_cons_zero, List.set_cons_succ, i64_w, i32_w]; rfl
                                    refine one_ (i := 5) (N := (some 81)) (bl_ 10 63) rfl rfl (by kernel_rfl) (by decide) (fun K hK => ?_)
                                    refine goes_ Try.func16 (by kernel_rfl) rfl ?arz21 (by rfl) rfl rfl ?harz21 ?hcz21
                                    case' hcz21 => (with_reducible refine (text_Width.calls _ cel q _ AW.out).mono ?_)
                                    rotate_left
                                    · first | rfl | (simp only [List.map_toArray, List.map_cons, List.map_nil]; rfl)
                                    rintro e wq22 ⟨rfl, hb⟩
                                    replace gw_c := pw_cell_below hb gw_c
                                    replace gw_L := Aside0.mk (blk_below gw_L.out hb)
                                    replace HO := Aside0.mk (HO.out.below hb)
                                    replace HB := Aside0.mk (below_step HB.out hb)
                                    clear hb
                                    refine ⟨_, rfl, ?_⟩
                                    refine hK.out _ _ gw_c (fun _ => ?_)
                                    clear hK K
                                    refine norm_ (a' := ?_) ?_ ?_
                                    rotate_left
                                    · show Act.put _ (some 81) _ = _; simp only [Act.put, List.setIfInBounds_toArray, List.set_cons_zero, List.set_cons_succ, i64_w, i32_w]; rfl
                                    refine pure_ (i := 6) (N := (some 82)) (v := ?_) (a' := ?_) (bl_ 10 127) rfl rfl (by kernel_rfl) (fun _ _ _ h => h) (Or.inl ⟨by rfl, ?_⟩) ?_ ?_
                                    rotate_left
                                    · intro w'; go_simp; with_reducible rfl
                                    rotate_left
                                    · simp only [Act.put, List.setIfInBounds_toArray, List.set_cons_zero, List.set_cons_succ, i64_w, i32_w]; rfl
                                    refine one_ (i := 7) (N := (some 83)) (bl_ 10 255) rfl rfl (by kernel_rfl) (by decide) (fun K hK => ?_)
                                    refine goes_ Try.func17 (by kernel_rfl) rfl ?arz24 (by rfl) rfl rfl ?harz24 ?hcz24
                                    case' hcz24 => (with_reducible refine (strings_Repeat.calls (⟨#[32]⟩ : ByteArray) (wrap64 (rd ws y - q)) sp _ AR.out).mono ?_)
                                    rotate_left
                                    · first | rfl | (simp only [List.map_toArray, List.map_cons, List.map_nil]; rfl)
                                    rintro e wq25 ⟨rfl, hb⟩
                                    replace gw_c := pw_cell_below hb gw_c
                                    replace gw_L := Aside0.mk (blk_below gw_L.out hb)
                                    replace HO := Aside0.mk (HO.out.below hb)
                                    replace HB := Aside0.mk (below_step HB.out hb)
                                    clear hb
                                    refine ⟨_, rfl, ?_⟩
                                    refine hK.out _ _ gw_c (fun _ => ?_)
                                    clear hK K
                                    refine norm_ (a' := ?_) ?_ ?_
                                    rotate_left
                                    · show Act.put _ (some 83) _ = _; simp only [Act.put, List.setIfInBounds_toArray, List.set_cons_zero, List.set_cons_succ, i64_w, i32_w]; rfl
                                    refine pure_ (i := 8) (N := (some 84)) (v := ?_) (a' := ?_) (bl_ 10 511) rfl rfl (by kernel_rfl) (fun _ _ _ h => h) (Or.inl ⟨by rfl, ?_⟩) ?_ ?_
                                    rotate_left
                                    · intro w'; go_simp; with_reducible rfl
                                    rotate_left
                                    · simp only [Act.put, List.setIfInBounds_toArray, List.set_cons_zero, List.set_cons_succ, i64_w, i32_w]; rfl
                                    refine pure_ (i := 9) (N := (some 16)) (v := ?_) (a' := ?_) (bl_ 10 1023) rfl rfl (by kernel_rfl) (fun _ _ _ h => h) (Or.inl ⟨by rfl, ?_⟩) ?_ ?_
                                    rotate_left
                                    · intro w'; go_simp; with_reducible rfl
                                    rotate_left
                                    · simp only [Act.put, List.setIfInBounds_toArray, List.set_cons_zero, List.set_cons_succ, i64_w, i32_w]; rfl
                                    refine done_ (by kernel_rfl) ?_
                                    clear gw_c
                                    go_wp2
                                    go_roundg k3
                                    case measure => have := HK1.out; have := HK2.out; have := HK3.out; omega
                                    case rel => exact ⟨_, wrap64 (y + 1), rfl, (by first | rfl | (simp; done) | (simp [*]; done)), H', ⟨by have := HK1.out; have := HK2.out; have := HK3.out; omega⟩, gw_L, HO, HB⟩
                                  · rw [if_neg c10] at H
                                    exact absurd H (by simp)
                                · skip
                                  have hh : text_Table.head s y = s := if_neg c8
                                  rw [hh] at H
                                  clear hh
                                  have c8b0 : decide (0 < y) = false := decide_eq_false c8
                                  clear c8
                                  rw [if_neg c9] at H
                                  have c9b0 : decide (y < wrap64 ((text_Table.row l0 x).length - 1)) = false := decide_eq_false c9
                                  have c9b1 : decide (y < ((text_Table.row l0 x).length : Int) - 1) = false := decide_eq_false (by have := HN.out; unfold wrap64 at c9; omega)
                                  clear c9
                                  have z0a : decide (s.size + cel.size ≤ 9223372036854775807) = true := decide_eq_true (by have := hok.1; have := hok.2; have d_ : (⟨#[32, 32]⟩ : ByteArray).size = 2 := rfl; omega)
                                  have z0b : (9223372036854775807 < s.size + cel.size) = False := eq_false (by have := hok.1; have := hok.2; have d_ : (⟨#[32, 32]⟩ : ByteArray).size = 2 := rfl; omega)
                                  clear hok
                                  have H' := Aside0.mk H
                                  clear H
                                  go_wp2
                                  go_roundg k3
                                  case measure => have := HK1.out; have := HK2.out; have := HK3.out; omega
                                  case rel => exact ⟨_, wrap64 (y + 1), rfl, (by first | rfl | (simp; done) | (simp [*]; done)), H', ⟨by have := HK1.out; have := HK2.out; have := HK3.out; omega⟩, gw_L, HO, HB⟩
                            · rw [if_neg hok] at H
                              exact absurd H (by simp)
                          · rw [if_neg c7] at H
                            exact absurd H (by simp)
                        · rw [if_neg c6] at H
                          have c6b0 : decide (y < ((text_Table.row l0 x).length : Int)) = false := decide_eq_false c6
                          clear c6
                          by_cases c28 : ls.length < 8796093022208
                          · rw [if_pos c28] at H
                            have LM := Aside0.mk c28
                            clear c28
                            have H' := Aside0.mk H
                            clear H
                            go_wp2_with (first | ((with_reducible refine gate_builtin (b := .append) (xs := #[.tmp 89, .tmp 91]) rfl ?_); at_builtin; refine Kd.R_append Kd.string (w0 := w) w.heap.size rfl (.tmp 89) (.tmp 91) 23 9 (.string ⟨#[]⟩) 16 rfl Try.underlying23 info9 rfl (by decide) (by omega) u11 ls s [.string s] (fun k_ => k_ ≠ gw) (fun _ => False) rfl rfl ?aP (fun _ hk => hk.elim) ?aF ?aO ?aB ?aS ?aL ?_; (case aP => exact rfl); (case aB => exact HB.out); (case aF => exact fun z_ hz_ e_ => Nat.lt_irrefl _ (Nat.lt_of_lt_of_le (blk_lt gw_L.out) (e_ ▸ hz_))); (case aO => exact HO.out); (case aS => exact below_size HB.out); (case aL => have := LM.out; omega); intro v154 w29 ho hb hg hat; have hne_ := HO.out.ne; replace gw_L := Aside0.mk (blk_grown gw_L.out hg hne_); clear HO; have HO := Aside0.mk (show text_Table.RowAt _ _ _ _ _ from ho); replace HB := Aside0.mk hb; clear ho hb hg hat hne_))
                            go_roundg k3
                            case measure => have := HK1.out; have := HK2.out; have := HK3.out; omega
                            case rel => exact ⟨ls ++ [s], wrap64 (x + 1), (by first | rfl | (simp; done) | (simp [*]; done)), H', ⟨by have := HK1.out; have := HK2.out; have := HK3.out; omega⟩, gw_L, HO, HB⟩
                          · rw [if_neg c28] at H
                            exact absurd H (by simp)
                · rw [if_neg c4] at H
                  exact absurd H (by simp)
              · rw [if_neg c3] at H
                have c3b0 : decide (x < (l0.length : Int)) = false := decide_eq_false c3
                clear c3
                simp only [Option.some.injEq, Prod.mk.injEq] at H
                obtain ⟨rfl, rfl, rfl⟩ := H
                go_wp2
                go_ret3
                exact ⟨_, rfl, Kd.R_mono HO.out (fun _ _ => trivial), HB.out⟩

end Go.Proofs.Ytghhpgpcbnkamaa.P
