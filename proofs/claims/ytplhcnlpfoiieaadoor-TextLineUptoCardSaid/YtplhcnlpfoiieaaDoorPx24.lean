-- Written by printx.py (this work's driver over the kit's print) out of the translation; Lean checks it.
import Derived.Deep.DeepMust
import Derived.Lib.RuneBytes
import Derived.Test.YtplhcnlpfoiieaaDoorPx0
namespace Go.Proofs.YtplhcnlpfoiieaaDoor.P
open Go.RowKit Go.Proofs.YtplhcnlpfoiieaaDoorW.PrintWords Go.Proofs.YtplhcnlpfoiieaaDoorW.PrintLast Go.Proofs.YtplhcnlpfoiieaaDoorW.PrintMore
attribute [local go_sem] max2_int min2_int max_two min_two max_three min_three max_four min_four   -- for this text's walks alone
set_option linter.unusedVariables false
set_option linter.unusedSimpArgs false

/-! ### utf8_appendRuneNonASCII: function 58 -/
-- GIVEN
/-- The encoding of what is no ASCII. -/
def utf8_appendRuneNonASCII.f (l0 : List Int) (a1 : Int) : Option (List Int) := if a1 < -2147483648 ∨ (0 ≤ a1 ∧ a1 ≤ 127) ∨ 2147483647 < a1 then none else if l0.length + 4 < 140737488355328 then some (l0 ++ Lib.encodeRuneZ a1) else none
theorem utf8_appendRuneNonASCII.C_lit (k : IntKind) (w : World) (e : Nat) (ys : List Int) (hlen : ys.length ≤ 9223372036854775807) : Kd.C (Kd.int k) (w.alloc (.cells (ys.map (Value.int k)).toArray e)) (some ⟨w.heap.size, 0, none⟩) ys.length ys := by
  refine ⟨rfl, hlen, fun _ => ⟨_, rfl, fun j p hj => ⟨[.int k p], rfl, rfl, fun i u hu => ?_⟩⟩⟩
  cases i with
  | zero =>
    simp only [List.getElem?_cons_zero, Option.some.injEq] at hu
    subst hu
    have hb : (w.alloc (.cells (ys.map (Value.int k)).toArray e)).heap[w.heap.size]? = some (.cells (ys.map (Value.int k)).toArray e (0, 0)) := heap_alloc_new w _
    have ha : (⟨w.heap.size, 0, none⟩ : Addr).add (j * (Kd.int k).sz + 0) = ⟨w.heap.size, j, none⟩ := by
      rw [show (Kd.int k).sz = 1 from rfl, Nat.mul_one, Nat.add_zero, add_plain]
    rw [ha, blk_cell hb j]
    simp [hj]
  | succ i => simp at hu

set_option maxHeartbeats 8000000 in
set_option maxRecDepth 100000 in
theorem utf8_appendRuneNonASCII.c_two (P0_ : Nat → Prop) (u9000_ : Value) (l0 : List Int) (a1 : Int) (w0 w : World) (hB : Below w0.heap.size w0 w) (ho0 : Kd.R (Kd.int .u8) 5 w w0.heap.size P0_ u9000_ l0) (h0 : 128 ≤ a1) (h1 : a1 ≤ 2047) (hl : l0.length + 4 < 140737488355328) :
    Calls Tryd.prog 58 #[u9000_, .int .i32 a1] w fun e w' => ∃ v0_ : Value, e = .returned (v0_) ∧ Kd.R (Kd.int .u8) 5 w' w0.heap.size (fun k_ => (P0_ k_ ∨ w.heap.size ≤ k_)) v0_ (l0 ++ ([192 + a1 / 64, 128 + a1 % 64] : List Int)) ∧ Below w0.heap.size w0 w' ∧ Kept w w' (fun k_ => P0_ k_) := by
  have HO0 := Aside0.mk ho0
  have HB := Aside0.mk hB
  have HL := Aside0.mk hl
  clear ho0 hB hl
  go_enter Tryd.func58, Tryd.ntmps58
  go_wp2_with (first | ((with_reducible refine gate_builtin (b := .append) (xs := #[.tmp 14, .tmp 23]) rfl ?_); at_builtin; go_must (refine Kd.R_append_rows (Kd.int .u8) (w0 := w0) w0.heap.size rfl (.tmp 14) (.tmp 23) 56 5 (.int .u8 0) 1 rfl Tryd.underlying56 info5 rfl (by decide) (by omega) u9000_ l0 ([192 + a1 / 64, 128 + a1 % 64] : List Int) (some ⟨w.heap.size, 0, none⟩) 2 2 (fun k_ => P0_ k_ ∨ w.heap.size ≤ k_) (fun _ => False) rfl rfl ?aO ?aR (fun _ _ h => h) (fun _ h => h.elim) ?aF ?aB ?aS ?aL ?_); (case aO => go_must (exact Kd.R_alloc (Kd.R_mono HO0.out (fun _ h => .inl h)) _)); (case aR => go_must (exact utf8_appendRuneNonASCII.C_lit .u8 w 5 ([192 + a1 / 64, 128 + a1 % 64] : List Int) (by simp))); (case aF => go_must (intro k hk; exact .inr (Nat.le_trans (by simp) hk))); (case aB => go_must (exact HB.out.alloc HB.out.size _)); (case aS => go_must (have := HB.out.size; simp; omega)); (case aL => go_must (have := HL.out; omega)); intro v1 w8 ho hb hg _; have H8 := Aside0.mk ho; have HB8 := Aside0.mk hb; have HG8 := Aside0.mk hg; clear ho hb hg))
  go_ret
  exact ⟨_, rfl, H8.out, HB8.out, Kept.of_grown HG8.out (Kept.alloc (Kept.refl _ _) _) (fun k e => .inl (HO0.out.1 k e))⟩

set_option maxHeartbeats 8000000 in
set_option maxRecDepth 100000 in
theorem utf8_appendRuneNonASCII.c_three_lo (P0_ : Nat → Prop) (u9000_ : Value) (l0 : List Int) (a1 : Int) (w0 w : World) (hB : Below w0.heap.size w0 w) (ho0 : Kd.R (Kd.int .u8) 5 w w0.heap.size P0_ u9000_ l0) (h0 : 2048 ≤ a1) (h1 : a1 < 55296) (hl : l0.length + 4 < 140737488355328) :
    Calls Tryd.prog 58 #[u9000_, .int .i32 a1] w fun e w' => ∃ v0_ : Value, e = .returned (v0_) ∧ Kd.R (Kd.int .u8) 5 w' w0.heap.size (fun k_ => (P0_ k_ ∨ w.heap.size ≤ k_)) v0_ (l0 ++ ([224 + a1 / 4096, 128 + a1 / 64 % 64, 128 + a1 % 64] : List Int)) ∧ Below w0.heap.size w0 w' ∧ Kept w w' (fun k_ => P0_ k_) := by
  have HO0 := Aside0.mk ho0
  have HB := Aside0.mk hB
  have HL := Aside0.mk hl
  clear ho0 hB hl
  go_enter Tryd.func58, Tryd.ntmps58
  go_wp2_with (first | ((with_reducible refine gate_builtin (b := .append) (xs := #[.tmp 34, .tmp 48]) rfl ?_); at_builtin; go_must (refine Kd.R_append_rows (Kd.int .u8) (w0 := w0) w0.heap.size rfl (.tmp 34) (.tmp 48) 56 5 (.int .u8 0) 1 rfl Tryd.underlying56 info5 rfl (by decide) (by omega) u9000_ l0 ([224 + a1 / 4096, 128 + a1 / 64 % 64, 128 + a1 % 64] : List Int) (some ⟨w.heap.size, 0, none⟩) 3 3 (fun k_ => P0_ k_ ∨ w.heap.size ≤ k_) (fun _ => False) rfl rfl ?aO ?aR (fun _ _ h => h) (fun _ h => h.elim) ?aF ?aB ?aS ?aL ?_); (case aO => go_must (exact Kd.R_alloc (Kd.R_mono HO0.out (fun _ h => .inl h)) _)); (case aR => go_must (exact utf8_appendRuneNonASCII.C_lit .u8 w 5 ([224 + a1 / 4096, 128 + a1 / 64 % 64, 128 + a1 % 64] : List Int) (by simp))); (case aF => go_must (intro k hk; exact .inr (Nat.le_trans (by simp) hk))); (case aB => go_must (exact HB.out.alloc HB.out.size _)); (case aS => go_must (have := HB.out.size; simp; omega)); (case aL => go_must (have := HL.out; omega)); intro v1 w8 ho hb hg _; have H8 := Aside0.mk ho; have HB8 := Aside0.mk hb; have HG8 := Aside0.mk hg; clear ho hb hg))
  go_ret
  exact ⟨_, rfl, H8.out, HB8.out, Kept.of_grown HG8.out (Kept.alloc (Kept.refl _ _) _) (fun k e => .inl (HO0.out.1 k e))⟩

set_option maxHeartbeats 8000000 in
set_option maxRecDepth 100000 in
theorem utf8_appendRuneNonASCII.c_three_hi (P0_ : Nat → Prop) (u9000_ : Value) (l0 : List Int) (a1 : Int) (w0 w : World) (hB : Below w0.heap.size w0 w) (ho0 : Kd.R (Kd.int .u8) 5 w w0.heap.size P0_ u9000_ l0) (h0 : 57343 < a1) (h1 : a1 ≤ 65535) (hl : l0.length + 4 < 140737488355328) :
    Calls Tryd.prog 58 #[u9000_, .int .i32 a1] w fun e w' => ∃ v0_ : Value, e = .returned (v0_) ∧ Kd.R (Kd.int .u8) 5 w' w0.heap.size (fun k_ => (P0_ k_ ∨ w.heap.size ≤ k_)) v0_ (l0 ++ ([224 + a1 / 4096, 128 + a1 / 64 % 64, 128 + a1 % 64] : List Int)) ∧ Below w0.heap.size w0 w' ∧ Kept w w' (fun k_ => P0_ k_) := by
  have HO0 := Aside0.mk ho0
  have HB := Aside0.mk hB
  have HL := Aside0.mk hl
  clear ho0 hB hl
  go_enter Tryd.func58, Tryd.ntmps58
  go_wp2_with (first | ((with_reducible refine gate_builtin (b := .append) (xs := #[.tmp 34, .tmp 48]) rfl ?_); at_builtin; go_must (refine Kd.R_append_rows (Kd.int .u8) (w0 := w0) w0.heap.size rfl (.tmp 34) (.tmp 48) 56 5 (.int .u8 0) 1 rfl Tryd.underlying56 info5 rfl (by decide) (by omega) u9000_ l0 ([224 + a1 / 4096, 128 + a1 / 64 % 64, 128 + a1 % 64] : List Int) (some ⟨w.heap.size, 0, none⟩) 3 3 (fun k_ => P0_ k_ ∨ w.heap.size ≤ k_) (fun _ => False) rfl rfl ?aO ?aR (fun _ _ h => h) (fun _ h => h.elim) ?aF ?aB ?aS ?aL ?_); (case aO => go_must (exact Kd.R_alloc (Kd.R_mono HO0.out (fun _ h => .inl h)) _)); (case aR => go_must (exact utf8_appendRuneNonASCII.C_lit .u8 w 5 ([224 + a1 / 4096, 128 + a1 / 64 % 64, 128 + a1 % 64] : List Int) (by simp))); (case aF => go_must (intro k hk; exact .inr (Nat.le_trans (by simp) hk))); (case aB => go_must (exact HB.out.alloc HB.out.size _)); (case aS => go_must (have := HB.out.size; simp; omega)); (case aL => go_must (have := HL.out; omega)); intro v1 w8 ho hb hg _; have H8 := Aside0.mk ho; have HB8 := Aside0.mk hb; have HG8 := Aside0.mk hg; clear ho hb hg))
  go_ret
  exact ⟨_, rfl, H8.out, HB8.out, Kept.of_grown HG8.out (Kept.alloc (Kept.refl _ _) _) (fun k e => .inl (HO0.out.1 k e))⟩

set_option maxHeartbeats 8000000 in
set_option maxRecDepth 100000 in
theorem utf8_appendRuneNonASCII.c_four (P0_ : Nat → Prop) (u9000_ : Value) (l0 : List Int) (a1 : Int) (w0 w : World) (hB : Below w0.heap.size w0 w) (ho0 : Kd.R (Kd.int .u8) 5 w w0.heap.size P0_ u9000_ l0) (h0 : 65536 ≤ a1) (h1 : a1 ≤ 1114111) (hl : l0.length + 4 < 140737488355328) :
    Calls Tryd.prog 58 #[u9000_, .int .i32 a1] w fun e w' => ∃ v0_ : Value, e = .returned (v0_) ∧ Kd.R (Kd.int .u8) 5 w' w0.heap.size (fun k_ => (P0_ k_ ∨ w.heap.size ≤ k_)) v0_ (l0 ++ ([240 + a1 / 262144, 128 + a1 / 4096 % 64, 128 + a1 / 64 % 64, 128 + a1 % 64] : List Int)) ∧ Below w0.heap.size w0 w' ∧ Kept w w' (fun k_ => P0_ k_) := by
  have HO0 := Aside0.mk ho0
  have HB := Aside0.mk hB
  have HL := Aside0.mk hl
  clear ho0 hB hl
  go_enter Tryd.func58, Tryd.ntmps58
  go_wp2_with (first | ((with_reducible refine gate_builtin (b := .append) (xs := #[.tmp 57, .tmp 76]) rfl ?_); at_builtin; go_must (refine Kd.R_append_rows (Kd.int .u8) (w0 := w0) w0.heap.size rfl (.tmp 57) (.tmp 76) 56 5 (.int .u8 0) 1 rfl Tryd.underlying56 info5 rfl (by decide) (by omega) u9000_ l0 ([240 + a1 / 262144, 128 + a1 / 4096 % 64, 128 + a1 / 64 % 64, 128 + a1 % 64] : List Int) (some ⟨w.heap.size, 0, none⟩) 4 4 (fun k_ => P0_ k_ ∨ w.heap.size ≤ k_) (fun _ => False) rfl rfl ?aO ?aR (fun _ _ h => h) (fun _ h => h.elim) ?aF ?aB ?aS ?aL ?_); (case aO => go_must (exact Kd.R_alloc (Kd.R_mono HO0.out (fun _ h => .inl h)) _)); (case aR => go_must (exact utf8_appendRuneNonASCII.C_lit .u8 w 5 ([240 + a1 / 262144, 128 + a1 / 4096 % 64, 128 + a1 / 64 % 64, 128 + a1 % 64] : List Int) (by simp))); (case aF => go_must (intro k hk; exact .inr (Nat.le_trans (by simp) hk))); (case aB => go_must (exact HB.out.alloc HB.out.size _)); (case aS => go_must (have := HB.out.size; simp; omega)); (case aL => go_must (have := HL.out; omega)); intro v1 w8 ho hb hg _; have H8 := Aside0.mk ho; have HB8 := Aside0.mk hb; have HG8 := Aside0.mk hg; clear ho hb hg))
  go_ret
  exact ⟨_, rfl, H8.out, HB8.out, Kept.of_grown HG8.out (Kept.alloc (Kept.refl _ _) _) (fun k e => .inl (HO0.out.1 k e))⟩

set_option maxHeartbeats 8000000 in
set_option maxRecDepth 100000 in
theorem utf8_appendRuneNonASCII.c_sur (P0_ : Nat → Prop) (u9000_ : Value) (l0 : List Int) (a1 : Int) (w0 w : World) (hB : Below w0.heap.size w0 w) (ho0 : Kd.R (Kd.int .u8) 5 w w0.heap.size P0_ u9000_ l0) (h0 : 55296 ≤ a1) (h1 : a1 ≤ 57343) (hl : l0.length + 4 < 140737488355328) :
    Calls Tryd.prog 58 #[u9000_, .int .i32 a1] w fun e w' => ∃ v0_ : Value, e = .returned (v0_) ∧ Kd.R (Kd.int .u8) 5 w' w0.heap.size (fun k_ => (P0_ k_ ∨ w.heap.size ≤ k_)) v0_ (l0 ++ ([239, 191, 189] : List Int)) ∧ Below w0.heap.size w0 w' ∧ Kept w w' (fun k_ => P0_ k_) := by
  have HO0 := Aside0.mk ho0
  have HB := Aside0.mk hB
  have HL := Aside0.mk hl
  clear ho0 hB hl
  go_enter Tryd.func58, Tryd.ntmps58
  go_wp2_with (first | ((with_reducible refine gate_builtin (b := .append) (xs := #[.tmp 8, .tmp 9]) rfl ?_); at_builtin; go_must (refine Kd.R_append_rows (Kd.int .u8) (w0 := w0) w0.heap.size rfl (.tmp 8) (.tmp 9) 56 5 (.int .u8 0) 1 rfl Tryd.underlying56 info5 rfl (by decide) (by omega) u9000_ l0 ([239, 191, 189] : List Int) (some ⟨w.heap.size, 0, none⟩) 3 3 (fun k_ => P0_ k_ ∨ w.heap.size ≤ k_) (fun _ => False) rfl rfl ?aO ?aR (fun _ _ h => h) (fun _ h => h.elim) ?aF ?aB ?aS ?aL ?_); (case aO => go_must (exact Kd.R_alloc (Kd.R_mono HO0.out (fun _ h => .inl h)) _)); (case aR => go_must (exact utf8_appendRuneNonASCII.C_lit .u8 w 5 ([239, 191, 189] : List Int) (by simp))); (case aF => go_must (intro k hk; exact .inr (Nat.le_trans (by simp) hk))); (case aB => go_must (exact HB.out.alloc HB.out.size _)); (case aS => go_must (have := HB.out.size; simp; omega)); (case aL => go_must (have := HL.out; omega)); intro v1 w8 ho hb hg _; have H8 := Aside0.mk ho; have HB8 := Aside0.mk hb; have HG8 := Aside0.mk hg; clear ho hb hg))
  go_ret
  exact ⟨_, rfl, H8.out, HB8.out, Kept.of_grown HG8.out (Kept.alloc (Kept.refl _ _) _) (fun k e => .inl (HO0.out.1 k e))⟩

set_option maxHeartbeats 8000000 in
set_option maxRecDepth 100000 in
theorem utf8_appendRuneNonASCII.c_big (P0_ : Nat → Prop) (u9000_ : Value) (l0 : List Int) (a1 : Int) (w0 w : World) (hB : Below w0.heap.size w0 w) (ho0 : Kd.R (Kd.int .u8) 5 w w0.heap.size P0_ u9000_ l0) (h0 : 1114111 < a1) (h1 : a1 ≤ 2147483647) (hl : l0.length + 4 < 140737488355328) :
    Calls Tryd.prog 58 #[u9000_, .int .i32 a1] w fun e w' => ∃ v0_ : Value, e = .returned (v0_) ∧ Kd.R (Kd.int .u8) 5 w' w0.heap.size (fun k_ => (P0_ k_ ∨ w.heap.size ≤ k_)) v0_ (l0 ++ ([239, 191, 189] : List Int)) ∧ Below w0.heap.size w0 w' ∧ Kept w w' (fun k_ => P0_ k_) := by
  have HO0 := Aside0.mk ho0
  have HB := Aside0.mk hB
  have HL := Aside0.mk hl
  clear ho0 hB hl
  go_enter Tryd.func58, Tryd.ntmps58
  go_wp2_with (first | ((with_reducible refine gate_builtin (b := .append) (xs := #[.tmp 8, .tmp 9]) rfl ?_); at_builtin; go_must (refine Kd.R_append_rows (Kd.int .u8) (w0 := w0) w0.heap.size rfl (.tmp 8) (.tmp 9) 56 5 (.int .u8 0) 1 rfl Tryd.underlying56 info5 rfl (by decide) (by omega) u9000_ l0 ([239, 191, 189] : List Int) (some ⟨w.heap.size, 0, none⟩) 3 3 (fun k_ => P0_ k_ ∨ w.heap.size ≤ k_) (fun _ => False) rfl rfl ?aO ?aR (fun _ _ h => h) (fun _ h => h.elim) ?aF ?aB ?aS ?aL ?_); (case aO => go_must (exact Kd.R_alloc (Kd.R_mono HO0.out (fun _ h => .inl h)) _)); (case aR => go_must (exact utf8_appendRuneNonASCII.C_lit .u8 w 5 ([239, 191, 189] : List Int) (by simp))); (case aF => go_must (intro k hk; exact .inr (Nat.le_trans (by simp) hk))); (case aB => go_must (exact HB.out.alloc HB.out.size _)); (case aS => go_must (have := HB.out.size; simp; omega)); (case aL => go_must (have := HL.out; omega)); intro v1 w8 ho hb hg _; have H8 := Aside0.mk ho; have HB8 := Aside0.mk hb; have HG8 := Aside0.mk hg; clear ho hb hg))
  go_ret
  exact ⟨_, rfl, H8.out, HB8.out, Kept.of_grown HG8.out (Kept.alloc (Kept.refl _ _) _) (fun k e => .inl (HO0.out.1 k e))⟩

set_option maxHeartbeats 8000000 in
set_option maxRecDepth 100000 in
theorem utf8_appendRuneNonASCII.c_neg (P0_ : Nat → Prop) (u9000_ : Value) (l0 : List Int) (a1 : Int) (w0 w : World) (hB : Below w0.heap.size w0 w) (ho0 : Kd.R (Kd.int .u8) 5 w w0.heap.size P0_ u9000_ l0) (h0 : -2147483648 ≤ a1) (h1 : a1 < 0) (hl : l0.length + 4 < 140737488355328) :
    Calls Tryd.prog 58 #[u9000_, .int .i32 a1] w fun e w' => ∃ v0_ : Value, e = .returned (v0_) ∧ Kd.R (Kd.int .u8) 5 w' w0.heap.size (fun k_ => (P0_ k_ ∨ w.heap.size ≤ k_)) v0_ (l0 ++ ([239, 191, 189] : List Int)) ∧ Below w0.heap.size w0 w' ∧ Kept w w' (fun k_ => P0_ k_) := by
  have HO0 := Aside0.mk ho0
  have HB := Aside0.mk hB
  have HL := Aside0.mk hl
  clear ho0 hB hl
  have n1 : decide (a1 % 4294967296 ≤ 2047) = false := decide_eq_false (by omega)
  have n2 : decide (a1 % 4294967296 < 55296) = false := decide_eq_false (by omega)
  have n3 : decide (57343 < a1 % 4294967296) = true := decide_eq_true (by omega)
  have n4 : decide (a1 % 4294967296 ≤ 65535) = false := decide_eq_false (by omega)
  have n5 : decide (65535 < a1 % 4294967296) = true := decide_eq_true (by omega)
  have n6 : decide (a1 % 4294967296 ≤ 1114111) = false := decide_eq_false (by omega)
  go_enter Tryd.func58, Tryd.ntmps58
  go_wp2_with (first | ((with_reducible refine gate_builtin (b := .append) (xs := #[.tmp 8, .tmp 9]) rfl ?_); at_builtin; go_must (refine Kd.R_append_rows (Kd.int .u8) (w0 := w0) w0.heap.size rfl (.tmp 8) (.tmp 9) 56 5 (.int .u8 0) 1 rfl Tryd.underlying56 info5 rfl (by decide) (by omega) u9000_ l0 ([239, 191, 189] : List Int) (some ⟨w.heap.size, 0, none⟩) 3 3 (fun k_ => P0_ k_ ∨ w.heap.size ≤ k_) (fun _ => False) rfl rfl ?aO ?aR (fun _ _ h => h) (fun _ h => h.elim) ?aF ?aB ?aS ?aL ?_); (case aO => go_must (exact Kd.R_alloc (Kd.R_mono HO0.out (fun _ h => .inl h)) _)); (case aR => go_must (exact utf8_appendRuneNonASCII.C_lit .u8 w 5 ([239, 191, 189] : List Int) (by simp))); (case aF => go_must (intro k hk; exact .inr (Nat.le_trans (by simp) hk))); (case aB => go_must (exact HB.out.alloc HB.out.size _)); (case aS => go_must (have := HB.out.size; simp; omega)); (case aL => go_must (have := HL.out; omega)); intro v1 w8 ho hb hg _; have H8 := Aside0.mk ho; have HB8 := Aside0.mk hb; have HG8 := Aside0.mk hg; clear ho hb hg))
  go_ret
  exact ⟨_, rfl, H8.out, HB8.out, Kept.of_grown HG8.out (Kept.alloc (Kept.refl _ _) _) (fun k e => .inl (HO0.out.1 k e))⟩

theorem utf8_appendRuneNonASCII.calls (P0_ : Nat → Prop) (u9000_ : Value) (l0 : List Int) (a1 : Int) (r : List Int) (w0 w : World) (hB : Below w0.heap.size w0 w) (ho0 : Kd.R (Kd.int .u8) 5 w w0.heap.size P0_ u9000_ l0) (h : utf8_appendRuneNonASCII.f l0 a1 = some r) :
    Calls Tryd.prog 58 #[u9000_, .int .i32 a1] w fun e w' => ∃ v0_ : Value, e = .returned (v0_) ∧ Kd.R (Kd.int .u8) 5 w' w0.heap.size (fun k_ => (P0_ k_ ∨ w.heap.size ≤ k_)) v0_ r ∧ Below w0.heap.size w0 w' ∧ Kept w w' (fun k_ => P0_ k_) := by
  unfold utf8_appendRuneNonASCII.f at h
  split at h
  · exact absurd h (by simp)
  rename_i hr
  split at h
  · rename_i hl
    obtain rfl := Option.some.inj h
    by_cases c1 : a1 < 0
    · rw [Lib.encodeRuneZ_bad (.inl c1)]
      exact utf8_appendRuneNonASCII.c_neg P0_ u9000_ l0 a1 w0 w hB ho0 (by omega) c1 hl
    · by_cases c2 : a1 ≤ 2047
      · rw [Lib.encodeRuneZ_two (by omega) c2]
        exact utf8_appendRuneNonASCII.c_two P0_ u9000_ l0 a1 w0 w hB ho0 (by omega) c2 hl
      · by_cases c3 : a1 < 55296
        · rw [Lib.encodeRuneZ_three (.inl ⟨by omega, c3⟩)]
          exact utf8_appendRuneNonASCII.c_three_lo P0_ u9000_ l0 a1 w0 w hB ho0 (by omega) c3 hl
        · by_cases c4 : a1 ≤ 57343
          · rw [Lib.encodeRuneZ_bad (.inr (.inl ⟨by omega, c4⟩))]
            exact utf8_appendRuneNonASCII.c_sur P0_ u9000_ l0 a1 w0 w hB ho0 (by omega) c4 hl
          · by_cases c5 : a1 ≤ 65535
            · rw [Lib.encodeRuneZ_three (.inr ⟨by omega, c5⟩)]
              exact utf8_appendRuneNonASCII.c_three_hi P0_ u9000_ l0 a1 w0 w hB ho0 (by omega) c5 hl
            · by_cases c6 : a1 ≤ 1114111
              · rw [Lib.encodeRuneZ_four (by omega) c6]
                exact utf8_appendRuneNonASCII.c_four P0_ u9000_ l0 a1 w0 w hB ho0 (by omega) c6 hl
              · rw [Lib.encodeRuneZ_bad (.inr (.inr (by omega)))]
                exact utf8_appendRuneNonASCII.c_big P0_ u9000_ l0 a1 w0 w hB ho0 (by omega) (by omega) hl
  · exact absurd h (by simp)

end Go.Proofs.YtplhcnlpfoiieaaDoor.P
