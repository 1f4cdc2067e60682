/- a verdict about one key: the program's -/
import Derived.Test.YtdjdbjcapenjeaaDxTab
import Derived.Test.YtdjdbjcapenjeaaDx3
import Derived.Test.YtdjdbjcapenjeaaDxTy
import Derived.Test.YtdjdbjcapenjeaaKC
import Derived.Test.YtdjdbjcapenjeaaC
import Derived.Test.YtdjdbjcapenjeaaA
set_option linter.unusedVariables false
set_option maxRecDepth 100000
open Go Go.Proofs Go.Proofs.Ytdjdbjcapenjeaa.Dx Go.Proofs.Ytdjdbjcapenjeaa.Dx.TYtdjdbjcapenjeaa
namespace Go.Proofs.Ytdjdbjcapenjeaa.KD
namespace F20
abbrev V4 := (List D30) × (List D30) × Int × Int × D51
noncomputable def st4 (v : V4) : St := ⟨[.v (.sl T30) (v.1), .dead, .v .ref (.ptr 0 []), .dead, .dead, .dead, .dead, .dead, .dead, .dead, .dead, .dead, .v (.sl T30) (v.2.1), .v (.int .i64) (v.2.2.1), .v (.int .i64) (v.2.2.2.1), .dead, .dead, .dead, .dead, .dead, .dead, .dead, .dead, .dead, .dead, .dead, .dead, .dead, .dead, .dead, .dead, .dead, .dead, .dead, .dead, .dead, .dead, .dead, .dead, .dead, .dead, .dead, .dead, .dead, .dead, .dead, .dead, .dead, .dead, .dead, .dead, .dead, .dead], [.var T51 (v.2.2.2.2) 51]⟩
noncomputable def dec4 (s : St) : Option V4 := match gV (.sl T30) (s.T.getD 0 .dead), gV (.sl T30) (s.T.getD 12 .dead), gV (.int .i64) (s.T.getD 13 .dead), gV (.int .i64) (s.T.getD 14 .dead), gVar T51 s.H[0]? with | some a0, some a12, some a13, some a14, some b0 => some (a0, a12, a13, a14, b0) | _, _, _, _, _ => none
noncomputable def keep4 : List Nat := [0, 2, 12, 13, 14]
noncomputable def body4 : Code := bodyAt (loopsOf (bodyOf Try.f20)) 4
noncomputable def s0 (x3 : Int) (h0 : D51) : St := ⟨[.dead, .dead, .v .ref (.ptr 0 []), .v (.int .i64) x3, .dead, .dead, .dead, .dead, .dead, .dead, .dead, .dead, .dead, .dead, .dead, .dead, .dead, .dead, .dead, .dead, .dead, .dead, .dead, .dead, .dead, .dead, .dead, .dead, .dead, .dead, .dead, .dead, .dead, .dead, .dead, .dead, .dead, .dead, .dead, .dead, .dead, .dead, .dead, .dead, .dead, .dead, .dead, .dead, .dead, .dead, .dead, .dead, .dead], [.var T51 h0 51]⟩
noncomputable def s1 (x0 : (List D30)) (h0 : D51) : St := ⟨[.v (.sl T30) x0, .dead, .v .ref (.ptr 0 []), .dead, .dead, .dead, .dead, .dead, .dead, .dead, .dead, .dead, .dead, .dead, .dead, .dead, .dead, .dead, .dead, .dead, .dead, .dead, .dead, .dead, .dead, .dead, .dead, .dead, .dead, .dead, .dead, .dead, .dead, .dead, .dead, .dead, .dead, .dead, .dead, .dead, .dead, .dead, .dead, .dead, .dead, .dead, .dead, .dead, .dead, .dead, .dead, .dead, .dead], [.var T51 h0 51]⟩
/-- May the call be judged with the others? -/
def okK (cs : List D30) (c : D30) : Bool := C.F27.val c && !A.F28.val c && !(c.2.2.1.2.1 != (cs.getD 0 d30).2.2.1.2.1)
def Q4 : V4 → (Nat → St → Prop) → (St → Prop) → Prop := fun (cs, l, n, i, h) X R => 0 ≤ i ∧ i ≤ l.length ∧ l.length ≤ LB ∧ n = l.length ∧ cs = l ∧
  bif (l.drop i.toNat).all (okK cs) then X 0 (s1 cs h) else R (s0 140 (false, 0, [], ()))
noncomputable def purs : List (Nat × (List Ty × (List AV → PV))) := [(27, (Go.Proofs.Ytdjdbjcapenjeaa.C.F27.ts, Go.Proofs.Ytdjdbjcapenjeaa.C.F27.G)), (28, (Go.Proofs.Ytdjdbjcapenjeaa.A.F28.ts, Go.Proofs.Ytdjdbjcapenjeaa.A.F28.G)), (43, (Go.Proofs.Ytdjdbjcapenjeaa.KC.F43.ts, Go.Proofs.Ytdjdbjcapenjeaa.KC.F43.G))]
noncomputable def callF (g : FuncId) : CF := fun _ _ _ => False
noncomputable def L4 : K → Nat → St → Prop := mkL dec4 st4 0 1 [] Q4
noncomputable def loops : List (Nat × (List Nat × (K → Nat → St → Prop))) := [(4, (keep4, L4))]
noncomputable def C : Ctx := { ti := ti, meth := meth, can := can, pur := purOf purs, loops := fun i => seek loops i, gh := fun _ => [], xk := fun i => seek [(0, ([0, 2], 0))] i, rk := some ([2, 3], 1) }
noncomputable def Round4 (x0 : (List D30)) (x12 : (List D30)) (x13 : Int) (x14 : Int) (h0 : D51) (N : St → Prop) (X : Nat → St → Prop) (R : St → Prop) : Prop :=
  (bif decide (x14 < x13) then (((0 : Int) ≤ x14) ∧ ((x14 < (↑x12.length : Int)) ∧ (bif !C.F27.val (x12.getD x14.toNat d30) then R (s0 ((140 : Int)) ((false, ((0 : Int), ([], ()))))) else (bif A.F28.val (x12.getD x14.toNat d30) then R (s0 ((140 : Int)) ((false, ((0 : Int), ([], ()))))) else (((0 : Int) ≤ (0 : Int)) ∧ (((0 : Int) < (↑x0.length : Int)) ∧ (bif (x12.getD x14.toNat d30).snd.snd.fst.snd.fst != (x0.getD (Int.toNat (0 : Int)) d30).snd.snd.fst.snd.fst then R (s0 ((140 : Int)) ((false, ((0 : Int), ([], ()))))) else N (st4 (x0, x12, x13, IntKind.i64.wrap (x14 + (1 : Int)), h0))))))))) else X 0 (s1 (x0) (h0)))
theorem round4 (x0 : (List D30)) (x12 : (List D30)) (x13 : Int) (x14 : Int) (h0 : D51) (N : St → Prop) (X : Nat → St → Prop) (R : St → Prop) : exec C callF body4 ⟨0, [1], fun s' => cond (Nat.ble 1 s'.H.length) (N (scrub keep4 1 s')) False, X, R⟩ (st4 (x0, x12, x13, x14, h0)) = Round4 x0 x12 x13 x14 h0 N X R := by kernel_rfl
noncomputable def Main (calls : (List D30)) (k : AV → Prop) : Prop :=
  (bif decide ((↑calls.length : Int) > (16 : Int)) then k (.tup [⟨T51, ((false), (((0 : Int)), (([]), ())))⟩, ⟨(.int .i64), ((141 : Int))⟩]) else (st4 (calls, calls, (↑calls.length : Int), (0 : Int), false, (0 : Int), [], ()) = st4 (calls, calls, (↑calls.length : Int), (0 : Int), false, (0 : Int), [], ()) ∧ (((0 : Int) ≤ (0 : Int)) ∧ (((0 : Int) ≤ (↑calls.length : Int)) ∧ ((calls.length ≤ LB) ∧ (((↑calls.length : Int) = (↑calls.length : Int)) ∧ ((calls = calls) ∧ (bif calls.all (okK calls) then ((KC.F43.Pre calls) ∧ (bif !(KC.F43.val calls).snd then (((0 : Int) ≤ (0 : Int)) ∧ (((0 : Int) < (↑calls.length : Int)) ∧ k (.tup [⟨T51, ((false), (((calls.getD (Int.toNat (0 : Int)) d30).snd.snd.fst.snd.fst), (([]), ())))⟩, ⟨(.int .i64), ((0 : Int))⟩]))) else k (.tup [⟨T51, ((true), (((0 : Int)), (((KC.F43.val calls).fst), ())))⟩, ⟨(.int .i64), ((0 : Int))⟩]))) else k (.tup [⟨T51, ((false), (((0 : Int)), (([]), ())))⟩, ⟨(.int .i64), ((140 : Int))⟩])))))))))
theorem main (calls : (List D30)) (k : AV → Prop) : (runFn C callF Try.f20 [.v (.sl (.pair (.int .u8) (.pair (.int .u64) (.pair (.pair (.int .u8) (.pair (.int .u64) (.pair (.int .u64) (.pair (.sl (.int .u8)) (.pair (.sl (.int .u8)) (.pair .bool (.pair (.int .u8) .unit))))))) (.pair (.int .u8) (.pair (.sl (.int .u8)) (.pair (.int .i64) (.pair (.int .i64) .unit)))))))) calls] [] (fun r H => coRes H [(.pair .bool (.pair (.int .u64) (.pair (.sl (.int .i64)) .unit))), (.int .i64)] r k)) = Main calls k := by kernel_rfl
theorem loop4 (v : V4) (X : Nat → St → Prop) (R : St → Prop) : Q4 v X R → ∃ m, loopN C callF keep4 1 body4 ⟨0, [], fun _ => False, X, R⟩ m (st4 v) := by
  refine loop_ind (fun v => Q4 v X R) (fun (cs, l, n, i, h) => l.length - i.toNat) ?_ v
  rintro ⟨cs, l, n, i, h⟩ ⟨h0, h1, h2, rfl, rfl, h4⟩ N hN
  rw [round4]
  obtain ⟨j, rfl⟩ : ∃ a : Nat, i = a := ⟨i.toNat, by omega⟩
  dsimp only at hN
  rw [Int.toNat_natCast] at h4
  have h2' : cs.length ≤ 1073741824 := h2
  refine bif_d (fun hj => ?_) (fun hj => ?_)
  · have hn : j < cs.length := by omega
    rw [drop_cons hn d30, List.all_cons, okK] at h4
    rw [Int.toNat_natCast, w64n (by omega)]
    refine ⟨by omega, by omega, bif_i (fun e => ?_) (fun e => bif_i (fun e2 => ?_) (fun e2 => ⟨Int.le_refl 0, by omega, bif_i (fun e3 => ?_) (fun e3 => ?_)⟩))⟩
    · rw [show C.F27.val (cs.getD j d30) = false by simpa using e, Bool.false_and, Bool.false_and, Bool.false_and, cond_false] at h4
      exact h4
    · rw [show C.F27.val (cs.getD j d30) = true by simpa using e, e2, Bool.true_and, Bool.not_true, Bool.false_and, Bool.false_and, cond_false] at h4
      exact h4
    · rw [show C.F27.val (cs.getD j d30) = true by simpa using e, e2, show ((cs.getD j d30).2.2.1.2.1 != (cs.getD 0 d30).2.2.1.2.1) = true from e3, Bool.true_and, Bool.not_false, Bool.true_and, Bool.not_true, Bool.false_and, cond_false] at h4
      exact h4
    · rw [show C.F27.val (cs.getD j d30) = true by simpa using e, e2, show ((cs.getD j d30).2.2.1.2.1 != (cs.getD 0 d30).2.2.1.2.1) = false from e3, Bool.true_and, Bool.not_false, Bool.true_and, Bool.true_and] at h4
      exact hN (cs, cs, (cs.length : Int), ((j + 1 : Nat) : Int), h) ⟨by omega, by omega, h2, rfl, rfl, by rw [Int.toNat_natCast]; exact h4⟩ (by dsimp only; omega)
  · rw [List.drop_eq_nil_of_le (by omega), List.all_nil, cond_true] at h4
    exact h4
def Pre (cs : List D30) : Prop := cs.length ≤ LB ∧ ((cs.length ≤ 16 ∧ cs.all (okK cs) = true) → KC.F43.Pre cs ∧ ((KC.F43.val cs).2 = false → 0 < cs.length))
def val (cs : List D30) : D51 × Int := bif decide ((cs.length : Int) > 16) then ((false, 0, [], ()), 141) else bif !cs.all (okK cs) then ((false, 0, [], ()), 140) else
  bif !(KC.F43.val cs).2 then ((false, (cs.getD 0 d30).2.2.1.2.1, [], ()), 0) else ((true, 0, (KC.F43.val cs).1, ()), 0)
theorem spec (calls : List D30) (k : AV → Prop) (h : AllP [Pre calls]) (hk : k (.tup [⟨T51, (val calls).1⟩, ⟨.int .i64, (val calls).2⟩])) : Main calls k := by
  obtain ⟨⟨hl, hp⟩, _⟩ := h
  unfold val at hk
  refine bif_d (fun e => ?_) (fun e => ⟨rfl, Int.le_refl 0, by omega, hl, rfl, rfl, bif_i (fun e2 => ?_) (fun e2 => ?_)⟩)
  · rw [decide_eq_true e, cond_true] at hk
    exact hk
  · have e2' : calls.all (okK calls) = true := e2
    obtain ⟨p1, p2⟩ := hp ⟨by omega, e2'⟩
    rw [decide_eq_false e, e2', cond_false, Bool.not_true, cond_false] at hk
    refine ⟨p1, bif_i (fun e3 => ?_) (fun e3 => ?_)⟩
    · have e4 : (KC.F43.val calls).2 = false := by simpa using e3
      rw [e4, Bool.not_false, cond_true] at hk
      exact ⟨Int.le_refl 0, by have := p2 e4; omega, hk⟩
    · have e4 : (KC.F43.val calls).2 = true := by simpa using e3
      rw [e4, Bool.not_true, cond_false] at hk
      exact hk
  · have e2' : calls.all (okK calls) = false := e2
    rw [decide_eq_false e, e2', cond_false, Bool.not_false, cond_true] at hk
    exact hk
noncomputable def ts : List Ty := [(.sl T30)]
noncomputable def G : List AV → PV := pg1 (.sl T30) (fun calls => [Pre calls]) (fun calls => .tup [⟨T51, (val calls).1⟩, ⟨.int .i64, (val calls).2⟩])
theorem loopsOK : LoopsOK C callF (bodyOf Try.f20) := loopsOK_seek (tbl := loops) (fun _ => rfl) (by kernel_rfl) (List.forall_mem_cons.2 ⟨mkL_ok loop4, fun _ h => nomatch h⟩)
theorem pursOK : ∀ g ts F, C.pur g = some (ts, F) → SoundP Try.prog g F := purOf_ok (l := purs) (List.forall_mem_cons.2 ⟨Go.Proofs.Ytdjdbjcapenjeaa.C.F27.ok, List.forall_mem_cons.2 ⟨Go.Proofs.Ytdjdbjcapenjeaa.A.F28.ok, List.forall_mem_cons.2 ⟨Go.Proofs.Ytdjdbjcapenjeaa.KC.F43.ok, fun _ h => nomatch h⟩⟩⟩)
theorem cfsOK : ∀ g, SoundF Try.prog g (callF g) := fun g => soundF_none g
theorem ok : SoundP Try.prog 20 G := by
  unfold G
  refine soundP_pg1 (soundF_run (C := C) (callF := callF) (tabOK C rfl rfl rfl) cfsOK pursOK Try.func20 (by kernel_rfl) loopsOK) [T51, (.int .i64)] fun calls h => ?_
  rw [main]
  exact spec calls _ h rfl
end F20

end Go.Proofs.Ytdjdbjcapenjeaa.KD
