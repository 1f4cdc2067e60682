/- a search for an order: numbers of values -/
import Derived.Test.YtdjdbjcapenjeaaDxTab
import Derived.Test.YtdjdbjcapenjeaaDx3
import Derived.Test.YtdjdbjcapenjeaaDxTy
import Derived.Test.YtdjdbjcapenjeaaC
import Derived.Test.YtdjdbjcapenjeaaB
set_option linter.unusedVariables false
set_option maxRecDepth 100000
open Go Go.Proofs Go.Proofs.Ytdjdbjcapenjeaa.Dx Go.Proofs.Ytdjdbjcapenjeaa.Dx.TYtdjdbjcapenjeaa
namespace Go.Proofs.Ytdjdbjcapenjeaa.KA
namespace F62
abbrev V4 := Nat × Int × Int × (List D30) × Int × Nat × Nat × Nat × Nat × (List Int) × (List (List Int)) × (List Int) × (List Int) × D60
noncomputable def st4 (v : V4) : St := ⟨[.v .ref (.ptr 0 []), .dead, .dead, .v .ref (.ptr 5 []), .dead, .dead, .dead, .dead, .dead, .dead, .dead, .dead, .dead, .v .ref (.sl 2 0 (v.1)), .v (.int .i64) (v.2.1), .v (.int .i64) (v.2.2.1), .dead, .dead, .dead, .dead, .dead, .dead, .dead, .dead, .dead, .dead, .dead, .dead, .dead, .dead, .dead, .dead, .dead, .dead, .dead, .dead, .dead, .dead, .dead, .dead, .dead, .dead, .dead], [.var (.pair (.sl T30) (.pair (.int .u32) (.pair .ref (.pair .ref (.pair .ref (.pair .ref .unit)))))) ((v.2.2.2.1), ((v.2.2.2.2.1), ((.sl 1 0 (v.2.2.2.2.2.1)), ((.sl 2 0 (v.2.2.2.2.2.2.1)), ((.sl 3 0 (v.2.2.2.2.2.2.2.1)), ((.sl 4 0 (v.2.2.2.2.2.2.2.2.1)), ())))))) 98, .row (.int .u32) (v.2.2.2.2.2.2.2.2.2.1) 95, .row (.sl (.int .u8)) (v.2.2.2.2.2.2.2.2.2.2.1) 25, .row (.int .u32) (v.2.2.2.2.2.2.2.2.2.2.2.1) 95, .row (.int .i64) (v.2.2.2.2.2.2.2.2.2.2.2.2.1) 3, .var T60 (v.2.2.2.2.2.2.2.2.2.2.2.2.2) 64]⟩
noncomputable def dec4 (s : St) : Option V4 := match gV .ref (s.T.getD 13 .dead), gV (.int .i64) (s.T.getD 14 .dead), gV (.int .i64) (s.T.getD 15 .dead), gVar (.pair (.sl T30) (.pair (.int .u32) (.pair .ref (.pair .ref (.pair .ref (.pair .ref .unit)))))) s.H[0]?, gRow (.int .u32) s.H[1]?, gRow (.sl (.int .u8)) s.H[2]?, gRow (.int .u32) s.H[3]?, gRow (.int .i64) s.H[4]?, gVar T60 s.H[5]? with | some a13, some a14, some a15, some b0, some b1, some b2, some b3, some b4, some b5 => some (rN (a13), a14, a15, (b0).1, ((b0).2).1, rN ((((b0).2).2).1), rN (((((b0).2).2).2).1), rN ((((((b0).2).2).2).2).1), rN (((((((b0).2).2).2).2).2).1), b1, b2, b3, b4, b5) | _, _, _, _, _, _, _, _, _ => none
noncomputable def keep4 : List Nat := [0, 3, 13, 14, 15]
noncomputable def body4 : Code := bodyAt (loopsOf (bodyOf Try.f62)) 4
noncomputable def s0 (x4 : Int) (h0_0 : (List D30)) (h0_1 : Int) (n0_2 : Nat) (n0_3 : Nat) (n0_4 : Nat) (n0_5 : Nat) (h1 : (List Int)) (h2 : (List (List Int))) (h3 : (List Int)) (h4 : (List Int)) : St := ⟨[.dead, .dead, .dead, .dead, .v (.int .i64) x4, .dead, .dead, .dead, .dead, .dead, .dead, .dead, .dead, .dead, .dead, .dead, .dead, .dead, .dead, .dead, .dead, .dead, .dead, .dead, .dead, .dead, .dead, .dead, .dead, .dead, .dead, .dead, .dead, .dead, .dead, .dead, .dead, .dead, .dead, .dead, .dead, .dead, .dead], [.var (.pair (.sl T30) (.pair (.int .u32) (.pair .ref (.pair .ref (.pair .ref (.pair .ref .unit)))))) (h0_0, (h0_1, ((.sl 1 0 n0_2), ((.sl 2 0 n0_3), ((.sl 3 0 n0_4), ((.sl 4 0 n0_5), ())))))) 98, .row (.int .u32) h1 95, .row (.sl (.int .u8)) h2 25, .row (.int .u32) h3 95, .row (.int .i64) h4 3]⟩
noncomputable def s1 (h0_0 : (List D30)) (h0_1 : Int) (n0_2 : Nat) (n0_3 : Nat) (n0_4 : Nat) (n0_5 : Nat) (h1 : (List Int)) (h2 : (List (List Int))) (h3 : (List Int)) (h4 : (List Int)) (h5 : D60) : St := ⟨[.v .ref (.ptr 0 []), .dead, .dead, .v .ref (.ptr 5 []), .dead, .dead, .dead, .dead, .dead, .dead, .dead, .dead, .dead, .dead, .dead, .dead, .dead, .dead, .dead, .dead, .dead, .dead, .dead, .dead, .dead, .dead, .dead, .dead, .dead, .dead, .dead, .dead, .dead, .dead, .dead, .dead, .dead, .dead, .dead, .dead, .dead, .dead, .dead], [.var (.pair (.sl T30) (.pair (.int .u32) (.pair .ref (.pair .ref (.pair .ref (.pair .ref .unit)))))) (h0_0, (h0_1, ((.sl 1 0 n0_2), ((.sl 2 0 n0_3), ((.sl 3 0 n0_4), ((.sl 4 0 n0_5), ())))))) 98, .row (.int .u32) h1 95, .row (.sl (.int .u8)) h2 25, .row (.int .u32) h3 95, .row (.int .i64) h4 3, .var T60 h5 64]⟩
/-- Where these bytes stand first, or -1. -/
def ixV (x : List Int) : List (List Int) → Int → Int
  | [], _ => -1
  | v :: r, i => bif B.F60.val v x then i else ixV x r (i + 1)
theorem ixV_r (x : List Int) : ∀ (l : List (List Int)) (i : Int), 0 ≤ i → ixV x l i = -1 ∨ (i ≤ ixV x l i ∧ ixV x l i < i + l.length)
  | [], i, _ => .inl rfl
  | v :: r, i, h => by
    rw [ixV]
    cases B.F60.val v x with
    | true => exact .inr ⟨Int.le_refl _, by rw [cond_true, List.length_cons]; omega⟩
    | false =>
      rcases ixV_r x r (i + 1) (by omega) with e | ⟨e1, e2⟩
      · exact .inl e
      · exact .inr ⟨by rw [cond_false]; omega, by rw [cond_false, List.length_cons]; omega⟩
/-- A cell's number, and the values behind it. -/
def numV (vs : List (List Int)) (x : D60) : Int := bif x.1 then (bif decide (0 ≤ ixV x.2.1 vs 0) then ixV x.2.1 vs 0 + 1 else (vs.length : Int) + 1) else 0
def numL (vs : List (List Int)) (x : D60) : List (List Int) := bif x.1 then (bif decide (0 ≤ ixV x.2.1 vs 0) then vs else vs ++ [x.2.1]) else vs
def Q4 : V4 → (Nat → St → Prop) → (St → Prop) → Prop := fun (n, m, i, cs, must, na, nv, nf, no, ah, vs, fl, od, x) X R => 0 ≤ i ∧ i ≤ vs.length ∧ vs.length ≤ LB ∧ n = vs.length ∧ m = vs.length ∧ nv = vs.length ∧
  bif decide (0 ≤ ixV x.2.1 (vs.drop i.toNat) i) then R (s0 (ixV x.2.1 (vs.drop i.toNat) i + 1) cs must na nv nf no ah vs fl od) else X 0 (s1 cs must na nv nf no ah vs fl od x)
noncomputable def purs : List (Nat × (List Ty × (List AV → PV))) := [(60, (Go.Proofs.Ytdjdbjcapenjeaa.B.F60.ts, Go.Proofs.Ytdjdbjcapenjeaa.B.F60.G))]
noncomputable def callF (g : FuncId) : CF := fun _ _ _ => False
noncomputable def L4 : K → Nat → St → Prop := mkL dec4 st4 5 6 [] Q4
noncomputable def loops : List (Nat × (List Nat × (K → Nat → St → Prop))) := [(4, (keep4, L4))]
noncomputable def C : Ctx := { ti := ti, meth := meth, can := can, pur := purOf purs, loops := fun i => seek loops i, gh := fun _ => [], xk := fun i => seek [(0, ([0, 3], 0))] i, rk := some ([4], 5) }
noncomputable def Round4 (n13 : Nat) (x14 : Int) (x15 : Int) (h0_0 : (List D30)) (h0_1 : Int) (n0_2 : Nat) (n0_3 : Nat) (n0_4 : Nat) (n0_5 : Nat) (h1 : (List Int)) (h2 : (List (List Int))) (h3 : (List Int)) (h4 : (List Int)) (h5 : D60) (N : St → Prop) (X : Nat → St → Prop) (R : St → Prop) : Prop :=
  (bif decide (x15 < x14) then (((0 : Int) ≤ x15) ∧ ((x15 < (↑n13 : Int)) ∧ ((x15.toNat < h2.length) ∧ (bif B.F60.val (h2.getD x15.toNat []) h5.snd.fst then R (s0 (IntKind.i64.wrap (x15 + (1 : Int))) (h0_0) (h0_1) (n0_2) (n0_3) (n0_4) (n0_5) (h1) (h2) (h3) (h4)) else N (st4 (n13, x14, IntKind.i64.wrap (x15 + (1 : Int)), h0_0, h0_1, n0_2, n0_3, n0_4, n0_5, h1, h2, h3, h4, h5)))))) else X 0 (s1 (h0_0) (h0_1) (n0_2) (n0_3) (n0_4) (n0_5) (h1) (h2) (h3) (h4) (h5)))
theorem round4 (n13 : Nat) (x14 : Int) (x15 : Int) (h0_0 : (List D30)) (h0_1 : Int) (n0_2 : Nat) (n0_3 : Nat) (n0_4 : Nat) (n0_5 : Nat) (h1 : (List Int)) (h2 : (List (List Int))) (h3 : (List Int)) (h4 : (List Int)) (h5 : D60) (N : St → Prop) (X : Nat → St → Prop) (R : St → Prop) : exec C callF body4 ⟨5, [6], fun s' => cond (Nat.ble 6 s'.H.length) (N (scrub keep4 6 s')) False, X, R⟩ (st4 (n13, x14, x15, h0_0, h0_1, n0_2, n0_3, n0_4, n0_5, h1, h2, h3, h4, h5)) = Round4 n13 x14 x15 h0_0 h0_1 n0_2 n0_3 n0_4 n0_5 h1 h2 h3 h4 h5 N X R := by kernel_rfl
noncomputable def Main (x : D60) (cs : (List D30)) (must : Int) (na : Nat) (ah : (List Int)) (nv : Nat) (vs : (List (List Int))) (nf : Nat) (fl : (List Int)) (no : Nat) (od : (List Int)) (k : AV → List HObj → Prop) : Prop :=
  (bif !x.fst then k (.v (.int .i64) ((0 : Int))) [.var (.pair (.sl T30) (.pair (.int .u32) (.pair .ref (.pair .ref (.pair .ref (.pair .ref .unit)))))) ((cs), ((must), ((.sl 1 0 (na)), ((.sl 2 0 (nv)), ((.sl 3 0 (nf)), ((.sl 4 0 (no)), ())))))) 98, .row (.int .u32) (ah) 95, .row (.sl (.int .u8)) (vs) 25, .row (.int .u32) (fl) 95, .row (.int .i64) (od) 3] else (st4 (nv, (↑nv : Int), (0 : Int), cs, must, na, nv, nf, no, ah, vs, fl, od, x) = st4 (nv, (↑nv : Int), (0 : Int), cs, must, na, nv, nf, no, ah, vs, fl, od, x) ∧ (((0 : Int) ≤ (0 : Int)) ∧ (((0 : Int) ≤ (↑vs.length : Int)) ∧ ((vs.length ≤ LB) ∧ ((nv = vs.length) ∧ (((↑nv : Int) = (↑vs.length : Int)) ∧ ((nv = vs.length) ∧ (bif decide ((0 : Int) ≤ ixV x.snd.fst vs (0 : Int)) then k (.v (.int .i64) (ixV x.snd.fst vs (0 : Int) + (1 : Int))) [.var (.pair (.sl T30) (.pair (.int .u32) (.pair .ref (.pair .ref (.pair .ref (.pair .ref .unit)))))) ((cs), ((must), ((.sl 1 0 (na)), ((.sl 2 0 (nv)), ((.sl 3 0 (nf)), ((.sl 4 0 (no)), ())))))) 98, .row (.int .u32) (ah) 95, .row (.sl (.int .u8)) (vs) 25, .row (.int .u32) (fl) 95, .row (.int .i64) (od) 3] else ((nv ≤ vs.length) ∧ ((nv + (1 : Nat) ≤ (2932031007402 : Nat)) ∧ (((0 : Nat) + (1 : Nat) ≤ (1 : Nat)) ∧ k (.v (.int .i64) ((↑(nv + (1 : Nat)) : Int))) [.var (.pair (.sl T30) (.pair (.int .u32) (.pair .ref (.pair .ref (.pair .ref (.pair .ref .unit)))))) ((cs), ((must), ((.sl 1 0 (na)), ((.sl 2 0 (nv + (1 : Nat))), ((.sl 3 0 (nf)), ((.sl 4 0 (no)), ())))))) 98, .row (.int .u32) (ah) 95, .row (.sl (.int .u8)) (List.take nv vs ++ [x.snd.fst]) 25, .row (.int .u32) (fl) 95, .row (.int .i64) (od) 3]))))))))))))
theorem main (x : D60) (cs : (List D30)) (must : Int) (na : Nat) (ah : (List Int)) (nv : Nat) (vs : (List (List Int))) (nf : Nat) (fl : (List Int)) (no : Nat) (od : (List Int)) (k : AV → List HObj → Prop) : (runFn C callF Try.f62 [.v .ref (.ptr 0 []), .v (.pair .bool (.pair (.sl (.int .u8)) .unit)) x] [.var (.pair (.sl T30) (.pair (.int .u32) (.pair .ref (.pair .ref (.pair .ref (.pair .ref .unit)))))) (cs, must, .sl 1 0 na, .sl 2 0 nv, .sl 3 0 nf, .sl 4 0 no, ()) 98, .row (.int .u32) ah 95, .row (.sl (.int .u8)) vs 25, .row (.int .u32) fl 95, .row (.int .i64) od 3] k) = Main x cs must na ah nv vs nf fl no od k := by kernel_rfl
theorem loop4 (v : V4) (X : Nat → St → Prop) (R : St → Prop) : Q4 v X R → ∃ m, loopN C callF keep4 6 body4 ⟨5, [], fun _ => False, X, R⟩ m (st4 v) := by
  refine loop_ind (fun v => Q4 v X R) (fun (n, m, i, cs, must, na, nv, nf, no, ah, vs, fl, od, x) => vs.length - i.toNat) ?_ v
  rintro ⟨n, m, i, cs, must, na, nv, nf, no, ah, vs, fl, od, x⟩ ⟨h0, h1, h2, rfl, rfl, rfl, h4⟩ N hN
  rw [round4]
  obtain ⟨j, rfl⟩ : ∃ a : Nat, i = a := ⟨i.toNat, by omega⟩
  dsimp only at hN
  rw [Int.toNat_natCast] at h4
  have h2' : vs.length ≤ 1073741824 := h2
  refine bif_d (fun hj => ?_) (fun hj => ?_)
  · have hn : j < vs.length := by omega
    rw [drop_cons hn [], ixV] at h4
    rw [Int.toNat_natCast, w64n (by omega)]
    refine ⟨by omega, by omega, hn, bif_i (fun e => ?_) (fun e => ?_)⟩
    · rw [e, cond_true, decide_eq_true (show (0 : Int) ≤ (j : Int) by omega), cond_true] at h4
      exact h4
    · rw [e, cond_false] at h4
      exact hN (vs.length, (vs.length : Int), ((j + 1 : Nat) : Int), cs, must, na, vs.length, nf, no, ah, vs, fl, od, x) ⟨by omega, by omega, h2, rfl, rfl, rfl, by rw [Int.toNat_natCast, Int.natCast_add]; exact h4⟩ (by dsimp only; omega)
  · rw [List.drop_eq_nil_of_le (by omega)] at h4
    exact h4
abbrev VA := D60 × (List D30) × Int × Nat × Nat × Nat × Nat × (List Int) × (List (List Int)) × (List Int) × (List Int)
noncomputable def stA (v : VA) : St := ⟨[.v .ref (.ptr 0 []), .v T60 (v.1)], [.var (.pair (.sl T30) (.pair (.int .u32) (.pair .ref (.pair .ref (.pair .ref (.pair .ref .unit)))))) ((v.2.1), ((v.2.2.1), ((.sl 1 0 (v.2.2.2.1)), ((.sl 2 0 (v.2.2.2.2.1)), ((.sl 3 0 (v.2.2.2.2.2.1)), ((.sl 4 0 (v.2.2.2.2.2.2.1)), ())))))) 98, .row (.int .u32) (v.2.2.2.2.2.2.2.1) 95, .row (.sl (.int .u8)) (v.2.2.2.2.2.2.2.2.1) 25, .row (.int .u32) (v.2.2.2.2.2.2.2.2.2.1) 95, .row (.int .i64) (v.2.2.2.2.2.2.2.2.2.2) 3]⟩
noncomputable def decA (s : St) : Option VA := match gV T60 (s.T.getD 1 .dead), gVar (.pair (.sl T30) (.pair (.int .u32) (.pair .ref (.pair .ref (.pair .ref (.pair .ref .unit)))))) s.H[0]?, gRow (.int .u32) s.H[1]?, gRow (.sl (.int .u8)) s.H[2]?, gRow (.int .u32) s.H[3]?, gRow (.int .i64) s.H[4]? with | some a1, some b0, some b1, some b2, some b3, some b4 => some (a1, (b0).1, ((b0).2).1, rN ((((b0).2).2).1), rN (((((b0).2).2).2).1), rN ((((((b0).2).2).2).2).1), rN (((((((b0).2).2).2).2).2).1), b1, b2, b3, b4) | _, _, _, _, _, _ => none
def QA : VA → (AV → List HObj → Prop) → Prop := fun (x, cs, must, na, nv, nf, no, ah, vs, fl, od) κ => nv = vs.length ∧ vs.length ≤ LB ∧
  κ (.v (.int .i64) (numV vs x)) [.var (.pair (.sl T30) (.pair (.int .u32) (.pair .ref (.pair .ref (.pair .ref (.pair .ref .unit)))))) (cs, must, .sl 1 0 na, .sl 2 0 (numL vs x).length, .sl 3 0 nf, .sl 4 0 no, ()) 98, .row (.int .u32) ah 95, .row (.sl (.int .u8)) (numL vs x) 25, .row (.int .u32) fl 95, .row (.int .i64) od 3]
theorem spec (x : D60) (cs : List D30) (must : Int) (na : Nat) (ah : List Int) (nv : Nat) (vs : List (List Int)) (nf : Nat) (fl : List Int) (no : Nat) (od : List Int) (κ : AV → List HObj → Prop) (h : QA (x, cs, must, na, nv, nf, no, ah, vs, fl, od) κ) : Main x cs must na ah nv vs nf fl no od κ := by
  obtain ⟨rfl, hl, hk⟩ := h
  have hl' : vs.length ≤ 1073741824 := hl
  unfold numV numL at hk
  refine bif_i (fun e => ?_) (fun e => ⟨rfl, by omega, by omega, hl, rfl, rfl, rfl, bif_d (fun a => ?_) (fun a => ⟨Nat.le_refl _, by omega, by decide, ?_⟩)⟩)
  · rw [show x.1 = false by simpa using e] at hk; exact hk
  · rw [show x.1 = true by simpa using e, cond_true, cond_true, decide_eq_true a] at hk; exact hk
  · rw [show x.1 = true by simpa using e, cond_true, cond_true, decide_eq_false a, cond_false, cond_false, List.length_append, List.length_singleton] at hk
    rw [List.take_length]; exact hk
noncomputable def cf : CF := mkC decA stA QA
theorem loopsOK : LoopsOK C callF (bodyOf Try.f62) := loopsOK_seek (tbl := loops) (fun _ => rfl) (by kernel_rfl) (List.forall_mem_cons.2 ⟨mkL_ok loop4, fun _ h => nomatch h⟩)
theorem pursOK : ∀ g ts F, C.pur g = some (ts, F) → SoundP Try.prog g F := purOf_ok (l := purs) (List.forall_mem_cons.2 ⟨Go.Proofs.Ytdjdbjcapenjeaa.B.F60.ok, fun _ h => nomatch h⟩)
theorem cfsOK : ∀ g, SoundF Try.prog g (callF g) := fun g => soundF_none g
theorem ok : SoundF Try.prog 62 cf := mkC_ok (soundF_run (C := C) (callF := callF) (tabOK C rfl rfl rfl) cfsOK pursOK Try.func62 (by kernel_rfl) loopsOK) (by
  rintro ⟨x, cs, must, na, nv, nf, no, ah, vs, fl, od⟩ κ hq
  show runFn C callF Try.f62 [.v .ref (.ptr 0 []), .v T60 x] [.var (.pair (.sl T30) (.pair (.int .u32) (.pair .ref (.pair .ref (.pair .ref (.pair .ref .unit)))))) (cs, must, .sl 1 0 na, .sl 2 0 nv, .sl 3 0 nf, .sl 4 0 no, ()) 98, .row (.int .u32) ah 95, .row (.sl (.int .u8)) vs 25, .row (.int .u32) fl 95, .row (.int .i64) od 3] κ
  rw [main]
  exact spec x cs must na ah nv vs nf fl no od κ hq)
end F62

end Go.Proofs.Ytdjdbjcapenjeaa.KA
