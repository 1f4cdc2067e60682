/- the order of a key's calls: the program's -/
import Derived.Test.YtdjdbjcapenjeaaDxTab
import Derived.Test.YtdjdbjcapenjeaaDx3
import Derived.Test.YtdjdbjcapenjeaaDxTy
import Derived.Test.YtdjdbjcapenjeaaKB
import Derived.Test.YtdjdbjcapenjeaaA
set_option linter.unusedVariables false
set_option maxRecDepth 100000
open Go Go.Proofs Go.Proofs.Ytdjdbjcapenjeaa.Dx Go.Proofs.Ytdjdbjcapenjeaa.Dx.TYtdjdbjcapenjeaa
namespace Go.Proofs.Ytdjdbjcapenjeaa.KC
open KA.F62 KB KB.F55
namespace F43
abbrev V3 := (List D30) × Int × Int × (List Int) × (List Int) × (List (List Int)) × (List Int) × (List D30) × Int × Nat × Nat × Nat × Nat
noncomputable def st3 (v : V3) : St := ⟨[.v (.sl T30) (v.1), .dead, .dead, .dead, .v .ref (.ptr 4 []), .dead, .dead, .dead, .dead, .dead, .dead, .dead, .dead, .dead, .dead, .dead, .v (.int .i64) (v.2.1), .v (.int .i64) (v.2.2.1), .dead, .dead, .dead, .dead, .dead, .dead, .dead, .dead, .dead, .dead, .dead, .dead, .dead, .dead, .dead, .dead, .dead, .dead, .dead, .dead, .dead, .dead, .dead, .dead, .dead, .dead, .dead, .dead, .dead, .dead, .dead, .dead, .dead, .dead, .dead, .dead, .dead, .dead, .dead, .dead, .dead, .dead, .dead, .dead, .dead, .dead, .dead, .dead, .dead, .dead, .dead, .dead], [.row (.int .u32) (v.2.2.2.1) 95, .row (.int .u32) (v.2.2.2.2.1) 95, .row (.sl (.int .u8)) (v.2.2.2.2.2.1) 25, .row (.int .i64) (v.2.2.2.2.2.2.1) 3, .var (.pair (.sl T30) (.pair (.int .u32) (.pair .ref (.pair .ref (.pair .ref (.pair .ref .unit)))))) ((v.2.2.2.2.2.2.2.1), ((v.2.2.2.2.2.2.2.2.1), ((.sl 1 0 (v.2.2.2.2.2.2.2.2.2.1)), ((.sl 2 0 (v.2.2.2.2.2.2.2.2.2.2.1)), ((.sl 0 0 (v.2.2.2.2.2.2.2.2.2.2.2.1)), ((.sl 3 0 (v.2.2.2.2.2.2.2.2.2.2.2.2)), ())))))) 98]⟩
noncomputable def dec3 (s : St) : Option V3 := match gV (.sl T30) (s.T.getD 0 .dead), gV (.int .i64) (s.T.getD 16 .dead), gV (.int .i64) (s.T.getD 17 .dead), gRow (.int .u32) s.H[0]?, gRow (.int .u32) s.H[1]?, gRow (.sl (.int .u8)) s.H[2]?, gRow (.int .i64) s.H[3]?, gVar (.pair (.sl T30) (.pair (.int .u32) (.pair .ref (.pair .ref (.pair .ref (.pair .ref .unit)))))) s.H[4]? with | some a0, some a16, some a17, some b0, some b1, some b2, some b3, some b4 => some (a0, a16, a17, b0, b1, b2, b3, (b4).1, ((b4).2).1, rN ((((b4).2).2).1), rN (((((b4).2).2).2).1), rN ((((((b4).2).2).2).2).1), rN (((((((b4).2).2).2).2).2).1)) | _, _, _, _, _, _, _, _ => none
noncomputable def keep3 : List Nat := [0, 4, 16, 17]
noncomputable def body3 : Code := bodyAt (loopsOf (bodyOf Try.f43)) 3
abbrev V9 := (List D30) × Int × Int × Int × Int × Int × Int × (List Int) × (List Int) × (List (List Int)) × (List Int) × (List D30) × Int × Nat × Nat × Nat × Nat
noncomputable def st9 (v : V9) : St := ⟨[.v (.sl T30) (v.1), .dead, .dead, .dead, .v .ref (.ptr 4 []), .v (.int .i64) (v.2.1), .v (.int .u32) (v.2.2.1), .dead, .dead, .dead, .dead, .dead, .dead, .dead, .dead, .dead, .v (.int .i64) (v.2.2.2.1), .v (.int .i64) (v.2.2.2.2.1), .dead, .dead, .dead, .dead, .dead, .dead, .dead, .dead, .dead, .dead, .dead, .dead, .dead, .dead, .dead, .dead, .dead, .v (.int .i64) (v.2.2.2.2.2.1), .v (.int .i64) (v.2.2.2.2.2.2.1), .dead, .dead, .dead, .dead, .dead, .dead, .dead, .dead, .dead, .dead, .dead, .dead, .dead, .dead, .dead, .dead, .dead, .dead, .dead, .dead, .dead, .dead, .dead, .dead, .dead, .dead, .dead, .dead, .dead, .dead, .dead, .dead, .dead], [.row (.int .u32) (v.2.2.2.2.2.2.2.1) 95, .row (.int .u32) (v.2.2.2.2.2.2.2.2.1) 95, .row (.sl (.int .u8)) (v.2.2.2.2.2.2.2.2.2.1) 25, .row (.int .i64) (v.2.2.2.2.2.2.2.2.2.2.1) 3, .var (.pair (.sl T30) (.pair (.int .u32) (.pair .ref (.pair .ref (.pair .ref (.pair .ref .unit)))))) ((v.2.2.2.2.2.2.2.2.2.2.2.1), ((v.2.2.2.2.2.2.2.2.2.2.2.2.1), ((.sl 1 0 (v.2.2.2.2.2.2.2.2.2.2.2.2.2.1)), ((.sl 2 0 (v.2.2.2.2.2.2.2.2.2.2.2.2.2.2.1)), ((.sl 0 0 (v.2.2.2.2.2.2.2.2.2.2.2.2.2.2.2.1)), ((.sl 3 0 (v.2.2.2.2.2.2.2.2.2.2.2.2.2.2.2.2)), ())))))) 98]⟩
noncomputable def dec9 (s : St) : Option V9 := match gV (.sl T30) (s.T.getD 0 .dead), gV (.int .i64) (s.T.getD 5 .dead), gV (.int .u32) (s.T.getD 6 .dead), gV (.int .i64) (s.T.getD 16 .dead), gV (.int .i64) (s.T.getD 17 .dead), gV (.int .i64) (s.T.getD 35 .dead), gV (.int .i64) (s.T.getD 36 .dead), gRow (.int .u32) s.H[0]?, gRow (.int .u32) s.H[1]?, gRow (.sl (.int .u8)) s.H[2]?, gRow (.int .i64) s.H[3]?, gVar (.pair (.sl T30) (.pair (.int .u32) (.pair .ref (.pair .ref (.pair .ref (.pair .ref .unit)))))) s.H[4]? with | some a0, some a5, some a6, some a16, some a17, some a35, some a36, some b0, some b1, some b2, some b3, some b4 => some (a0, a5, a6, a16, a17, a35, a36, b0, b1, b2, b3, (b4).1, ((b4).2).1, rN ((((b4).2).2).1), rN (((((b4).2).2).2).1), rN ((((((b4).2).2).2).2).1), rN (((((((b4).2).2).2).2).2).1)) | _, _, _, _, _, _, _, _, _, _, _, _ => none
noncomputable def keep9 : List Nat := [0, 4, 5, 6, 16, 17, 35, 36]
noncomputable def body9 : Code := bodyAt (loopsOf (bodyOf Try.f43)) 9
noncomputable def s0 (h0 : (List Int)) (h1 : (List Int)) (h2 : (List (List Int))) (h3 : (List Int)) (h4_0 : (List D30)) (h4_1 : Int) (n4_2 : Nat) (n4_3 : Nat) (n4_4 : Nat) (n4_5 : Nat) : St := ⟨[.dead, .dead, .dead, .dead, .v .ref (.ptr 4 []), .dead, .dead, .dead, .dead, .dead, .dead, .dead, .dead, .dead, .dead, .dead, .dead, .dead, .dead, .dead, .dead, .dead, .dead, .dead, .dead, .dead, .dead, .dead, .dead, .dead, .dead, .dead, .dead, .dead, .dead, .dead, .dead, .dead, .dead, .dead, .dead, .dead, .dead, .dead, .dead, .dead, .dead, .dead, .dead, .dead, .dead, .dead, .dead, .dead, .dead, .dead, .dead, .dead, .dead, .dead, .dead, .dead, .dead, .dead, .dead, .dead, .dead, .dead, .dead, .dead], [.row (.int .u32) h0 95, .row (.int .u32) h1 95, .row (.sl (.int .u8)) h2 25, .row (.int .i64) h3 3, .var (.pair (.sl T30) (.pair (.int .u32) (.pair .ref (.pair .ref (.pair .ref (.pair .ref .unit)))))) (h4_0, (h4_1, ((.sl 1 0 n4_2), ((.sl 2 0 n4_3), ((.sl 0 0 n4_4), ((.sl 3 0 n4_5), ())))))) 98]⟩
noncomputable def s1 (x0 : (List D30)) (x6 : Int) (x16 : Int) (x17 : Int) (h0 : (List Int)) (h1 : (List Int)) (h2 : (List (List Int))) (h3 : (List Int)) (h4_0 : (List D30)) (h4_1 : Int) (n4_2 : Nat) (n4_3 : Nat) (n4_4 : Nat) (n4_5 : Nat) : St := ⟨[.v (.sl T30) x0, .dead, .dead, .dead, .v .ref (.ptr 4 []), .dead, .v (.int .u32) x6, .dead, .dead, .dead, .dead, .dead, .dead, .dead, .dead, .dead, .v (.int .i64) x16, .v (.int .i64) x17, .dead, .dead, .dead, .dead, .dead, .dead, .dead, .dead, .dead, .dead, .dead, .dead, .dead, .dead, .dead, .dead, .dead, .dead, .dead, .dead, .dead, .dead, .dead, .dead, .dead, .dead, .dead, .dead, .dead, .dead, .dead, .dead, .dead, .dead, .dead, .dead, .dead, .dead, .dead, .dead, .dead, .dead, .dead, .dead, .dead, .dead, .dead, .dead, .dead, .dead, .dead, .dead], [.row (.int .u32) h0 95, .row (.int .u32) h1 95, .row (.sl (.int .u8)) h2 25, .row (.int .i64) h3 3, .var (.pair (.sl T30) (.pair (.int .u32) (.pair .ref (.pair .ref (.pair .ref (.pair .ref .unit)))))) (h4_0, (h4_1, ((.sl 1 0 n4_2), ((.sl 2 0 n4_3), ((.sl 0 0 n4_4), ((.sl 3 0 n4_5), ())))))) 98]⟩
/-- The calls ahead of a call. -/
def ahF (cs : List D30) (i : Int) : List Nat → Int → Int
  | [], a => a
  | j :: l, a => ahF cs i l (bif A.F54.val (cs.getD j d30) (cs.getD i.toNat d30) then u32or a (one j) else a)
def mustF (cs : List D30) : List Nat → Int → Int
  | [], m => m
  | i :: l, m => mustF cs l (bif A.F41.val (cs.getD i d30) then u32or m (one i) else m)
def ahsF (cs : List D30) (l : List Nat) : List Int := l.map fun (i : Nat) => ahF cs (i : Int) (List.range' 0 cs.length) 0
def Q9 : V9 → (Nat → St → Prop) → (St → Prop) → Prop := fun (cs, i, a, x16, x17, n, j, fl, ah, vs, od, cs', must, na, nv, nf, no) X R => 0 ≤ i ∧ i < cs.length ∧ 0 ≤ j ∧ j ≤ cs.length ∧ cs.length ≤ LB ∧ n = cs.length ∧
  X 2 (s1 cs (ahF cs i (List.range' j.toNat (cs.length - j.toNat)) a) x16 x17 fl ah vs od cs' must na nv nf no)
def Q3 : V3 → (Nat → St → Prop) → (St → Prop) → Prop := fun (cs, n, i, fl, ah, vs, od, cs', must, na, nv, nf, no) X R => 0 ≤ i ∧ i ≤ cs.length ∧ cs.length ≤ LB ∧ n = cs.length ∧ na = ah.length ∧ (ah.length : Int) = i ∧
  ∀ m : Int, m = mustF cs (List.range' i.toNat (cs.length - i.toNat)) must → X 0 (s0 fl (ah ++ ahsF cs (List.range' i.toNat (cs.length - i.toNat))) vs od cs' m (ah ++ ahsF cs (List.range' i.toNat (cs.length - i.toNat))).length nv nf no)
noncomputable def purs : List (Nat × (List Ty × (List AV → PV))) := [(41, (Go.Proofs.Ytdjdbjcapenjeaa.A.F41.ts, Go.Proofs.Ytdjdbjcapenjeaa.A.F41.G)), (54, (Go.Proofs.Ytdjdbjcapenjeaa.A.F54.ts, Go.Proofs.Ytdjdbjcapenjeaa.A.F54.G))]
noncomputable def callF (g : FuncId) : CF := match seek [(55, Go.Proofs.Ytdjdbjcapenjeaa.KB.F55.cf)] g with | some F => F | none => fun _ _ _ => False
noncomputable def L3 : K → Nat → St → Prop := mkL dec3 st3 0 5 [] Q3
noncomputable def L9 : K → Nat → St → Prop := mkL dec9 st9 0 5 [5] Q9
noncomputable def loops : List (Nat × (List Nat × (K → Nat → St → Prop))) := [(3, (keep3, L3)), (9, (keep9, L9))]
noncomputable def C : Ctx := { ti := ti, meth := meth, can := can, pur := purOf purs, loops := fun i => seek loops i, gh := fun _ => [], flds := fun i => (seek [(13, [.fld 13 2 2 (.int .u32) 95, .fld 13 3 3 (.sl (.int .u8)) 25, .fld 13 5 5 (.int .i64) 3])] i).getD [], xk := fun i => seek [(0, ([4], 0)), (2, ([0, 4, 6, 16, 17], 0))] i, gk := fun i => seek [(7, ([0, 4, 5, 16, 17], 5))] i }
noncomputable def Round3 (x0 : (List D30)) (x16 : Int) (x17 : Int) (h0 : (List Int)) (h1 : (List Int)) (h2 : (List (List Int))) (h3 : (List Int)) (h4_0 : (List D30)) (h4_1 : Int) (n4_2 : Nat) (n4_3 : Nat) (n4_4 : Nat) (n4_5 : Nat) (N : St → Prop) (X : Nat → St → Prop) (R : St → Prop) : Prop :=
  (bif decide (x17 < x16) then (((0 : Int) ≤ x17) ∧ ((x17 < (↑x0.length : Int)) ∧ (bif A.F41.val (x0.getD x17.toNat d30) then (((0 : Int) ≤ x17) ∧ (st9 (x0, x17, (0 : Int), x16, x17, (↑x0.length : Int), (0 : Int), h0, h1, h2, h3, h4_0, Int.ofNat ((BitVec.ofInt IntKind.u32.bits h4_1 ||| BitVec.ofInt IntKind.u32.bits (IntKind.u32.wrap ((1 : Int) * (2 : Int) ^ min x17.toNat IntKind.u32.bits))).toNat % ((2 : Int) ^ IntKind.u32.bits).natAbs), n4_2, n4_3, n4_4, n4_5) = st9 (x0, x17, (0 : Int), x16, x17, (↑x0.length : Int), (0 : Int), h0, h1, h2, h3, h4_0, Int.ofNat ((BitVec.ofInt IntKind.u32.bits h4_1 ||| BitVec.ofInt IntKind.u32.bits (IntKind.u32.wrap ((1 : Int) * (2 : Int) ^ min x17.toNat IntKind.u32.bits))).toNat % ((2 : Int) ^ IntKind.u32.bits).natAbs), n4_2, n4_3, n4_4, n4_5) ∧ (((0 : Int) ≤ x17) ∧ ((x17 < (↑x0.length : Int)) ∧ (((0 : Int) ≤ (0 : Int)) ∧ (((0 : Int) ≤ (↑x0.length : Int)) ∧ ((x0.length ≤ LB) ∧ (((↑x0.length : Int) = (↑x0.length : Int)) ∧ ((n4_2 ≤ h1.length) ∧ ((n4_2 + (1 : Nat) ≤ (17592186044416 : Nat)) ∧ (((0 : Nat) + (1 : Nat) ≤ (1 : Nat)) ∧ N (st3 (x0, x16, IntKind.i64.wrap (x17 + (1 : Int)), h0, List.take n4_2 h1 ++ [ahF x0 x17 (List.range' (Int.toNat (0 : Int)) (x0.length - Int.toNat (0 : Int))) (0 : Int)], h2, h3, h4_0, Int.ofNat ((BitVec.ofInt IntKind.u32.bits h4_1 ||| BitVec.ofInt IntKind.u32.bits (IntKind.u32.wrap ((1 : Int) * (2 : Int) ^ min x17.toNat IntKind.u32.bits))).toNat % ((2 : Int) ^ IntKind.u32.bits).natAbs), n4_2 + (1 : Nat), n4_3, n4_4, n4_5))))))))))))) else (st9 (x0, x17, (0 : Int), x16, x17, (↑x0.length : Int), (0 : Int), h0, h1, h2, h3, h4_0, h4_1, n4_2, n4_3, n4_4, n4_5) = st9 (x0, x17, (0 : Int), x16, x17, (↑x0.length : Int), (0 : Int), h0, h1, h2, h3, h4_0, h4_1, n4_2, n4_3, n4_4, n4_5) ∧ (((0 : Int) ≤ x17) ∧ ((x17 < (↑x0.length : Int)) ∧ (((0 : Int) ≤ (0 : Int)) ∧ (((0 : Int) ≤ (↑x0.length : Int)) ∧ ((x0.length ≤ LB) ∧ (((↑x0.length : Int) = (↑x0.length : Int)) ∧ ((n4_2 ≤ h1.length) ∧ ((n4_2 + (1 : Nat) ≤ (17592186044416 : Nat)) ∧ (((0 : Nat) + (1 : Nat) ≤ (1 : Nat)) ∧ N (st3 (x0, x16, IntKind.i64.wrap (x17 + (1 : Int)), h0, List.take n4_2 h1 ++ [ahF x0 x17 (List.range' (Int.toNat (0 : Int)) (x0.length - Int.toNat (0 : Int))) (0 : Int)], h2, h3, h4_0, h4_1, n4_2 + (1 : Nat), n4_3, n4_4, n4_5))))))))))))))) else X 0 (s0 (h0) (h1) (h2) (h3) (h4_0) (h4_1) (n4_2) (n4_3) (n4_4) (n4_5)))
theorem round3 (x0 : (List D30)) (x16 : Int) (x17 : Int) (h0 : (List Int)) (h1 : (List Int)) (h2 : (List (List Int))) (h3 : (List Int)) (h4_0 : (List D30)) (h4_1 : Int) (n4_2 : Nat) (n4_3 : Nat) (n4_4 : Nat) (n4_5 : Nat) (N : St → Prop) (X : Nat → St → Prop) (R : St → Prop) : exec C callF body3 ⟨0, [5], fun s' => cond (Nat.ble 5 s'.H.length) (N (scrub keep3 5 s')) False, X, R⟩ (st3 (x0, x16, x17, h0, h1, h2, h3, h4_0, h4_1, n4_2, n4_3, n4_4, n4_5)) = Round3 x0 x16 x17 h0 h1 h2 h3 h4_0 h4_1 n4_2 n4_3 n4_4 n4_5 N X R := by kernel_rfl
noncomputable def Round9 (x0 : (List D30)) (x5 : Int) (x6 : Int) (x16 : Int) (x17 : Int) (x35 : Int) (x36 : Int) (h0 : (List Int)) (h1 : (List Int)) (h2 : (List (List Int))) (h3 : (List Int)) (h4_0 : (List D30)) (h4_1 : Int) (n4_2 : Nat) (n4_3 : Nat) (n4_4 : Nat) (n4_5 : Nat) (N : St → Prop) (X : Nat → St → Prop) (R : St → Prop) : Prop :=
  (bif decide (x36 < x35) then (((0 : Int) ≤ x36) ∧ ((x36 < (↑x0.length : Int)) ∧ (((0 : Int) ≤ x5) ∧ ((x5 < (↑x0.length : Int)) ∧ (bif A.F54.val (x0.getD x36.toNat d30) (x0.getD x5.toNat d30) then (((0 : Int) ≤ x36) ∧ N (st9 (x0, x5, IntKind.u32.wrap (↑(BitVec.ofInt IntKind.u32.bits x6 ||| BitVec.ofInt IntKind.u32.bits (IntKind.u32.wrap ((1 : Int) * (2 : Int) ^ min x36.toNat IntKind.u32.bits))).toNat : Int), x16, x17, x35, IntKind.i64.wrap (x36 + (1 : Int)), h0, h1, h2, h3, h4_0, h4_1, n4_2, n4_3, n4_4, n4_5))) else N (st9 (x0, x5, x6, x16, x17, x35, IntKind.i64.wrap (x36 + (1 : Int)), h0, h1, h2, h3, h4_0, h4_1, n4_2, n4_3, n4_4, n4_5))))))) else X 2 (s1 (x0) (x6) (x16) (x17) (h0) (h1) (h2) (h3) (h4_0) (h4_1) (n4_2) (n4_3) (n4_4) (n4_5)))
theorem round9 (x0 : (List D30)) (x5 : Int) (x6 : Int) (x16 : Int) (x17 : Int) (x35 : Int) (x36 : Int) (h0 : (List Int)) (h1 : (List Int)) (h2 : (List (List Int))) (h3 : (List Int)) (h4_0 : (List D30)) (h4_1 : Int) (n4_2 : Nat) (n4_3 : Nat) (n4_4 : Nat) (n4_5 : Nat) (N : St → Prop) (X : Nat → St → Prop) (R : St → Prop) : exec C callF body9 ⟨0, [5, 5], fun s' => cond (Nat.ble 5 s'.H.length) (N (scrub keep9 5 s')) False, X, R⟩ (st9 (x0, x5, x6, x16, x17, x35, x36, h0, h1, h2, h3, h4_0, h4_1, n4_2, n4_3, n4_4, n4_5)) = Round9 x0 x5 x6 x16 x17 x35 x36 h0 h1 h2 h3 h4_0 h4_1 n4_2 n4_3 n4_4 n4_5 N X R := by kernel_rfl
noncomputable def Main (calls : (List D30)) (k : AV → Prop) : Prop :=
  (((0 : Int) ≤ (↑calls.length : Int)) ∧ ((IntKind.i64.wrap ((1 : Int) * (2 : Int) ^ min (↑calls.length : Int).toNat IntKind.i64.bits) = IntKind.i64.wrap ((1 : Int) * (2 : Int) ^ min (↑calls.length : Int).toNat IntKind.i64.bits)) ∧ (((0 : Int) ≤ IntKind.i64.wrap ((1 : Int) * (2 : Int) ^ min (↑calls.length : Int).toNat IntKind.i64.bits)) ∧ ((IntKind.i64.wrap ((1 : Int) * (2 : Int) ^ min (↑calls.length : Int).toNat IntKind.i64.bits) ≤ (↑(17592186044416 : Nat) : Int)) ∧ (st3 (calls, (↑calls.length : Int), (0 : Int), List.replicate (IntKind.i64.wrap ((1 : Int) * (2 : Int) ^ min (↑calls.length : Int).toNat IntKind.i64.bits)).toNat (0 : Int), [], [], [], calls, Int.ofNat (nat_lit 0), (0 : Nat), (0 : Nat), (IntKind.i64.wrap ((1 : Int) * (2 : Int) ^ min (↑calls.length : Int).toNat IntKind.i64.bits)).toNat, (0 : Nat)) = st3 (calls, (↑calls.length : Int), (0 : Int), List.replicate (IntKind.i64.wrap ((1 : Int) * (2 : Int) ^ min (↑calls.length : Int).toNat IntKind.i64.bits)).toNat (0 : Int), [], [], [], calls, Int.ofNat (nat_lit 0), (0 : Nat), (0 : Nat), (IntKind.i64.wrap ((1 : Int) * (2 : Int) ^ min (↑calls.length : Int).toNat IntKind.i64.bits)).toNat, (0 : Nat)) ∧ (((0 : Int) ≤ (0 : Int)) ∧ (((0 : Int) ≤ (↑calls.length : Int)) ∧ ((calls.length ≤ LB) ∧ (((↑calls.length : Int) = (↑calls.length : Int)) ∧ (((0 : Nat) = (0 : Nat)) ∧ (((↑(0 : Nat) : Int) = (0 : Int)) ∧ (∀ q2 : Int, ((q2 = mustF calls (List.range' (Int.toNat (0 : Int)) (calls.length - Int.toNat (0 : Int))) (Int.ofNat (nat_lit 0))) → (F55.stA ((0 : Int), d60, calls, q2, ([] ++ ahsF calls (List.range' (Int.toNat (0 : Int)) (calls.length - Int.toNat (0 : Int)))).length, (0 : Nat), (IntKind.i64.wrap ((1 : Int) * (2 : Int) ^ min (↑calls.length : Int).toNat IntKind.i64.bits)).toNat, (0 : Nat), [] ++ ahsF calls (List.range' (Int.toNat (0 : Int)) (calls.length - Int.toNat (0 : Int))), [], List.replicate (IntKind.i64.wrap ((1 : Int) * (2 : Int) ^ min (↑calls.length : Int).toNat IntKind.i64.bits)).toNat (0 : Int), []) = F55.stA ((0 : Int), d60, calls, q2, ([] ++ ahsF calls (List.range' (Int.toNat (0 : Int)) (calls.length - Int.toNat (0 : Int)))).length, (0 : Nat), (IntKind.i64.wrap ((1 : Int) * (2 : Int) ^ min (↑calls.length : Int).toNat IntKind.i64.bits)).toNat, (0 : Nat), [] ++ ahsF calls (List.range' (Int.toNat (0 : Int)) (calls.length - Int.toNat (0 : Int))), [], List.replicate (IntKind.i64.wrap ((1 : Int) * (2 : Int) ^ min (↑calls.length : Int).toNat IntKind.i64.bits)).toNat (0 : Int), []) ∧ ((([] ++ ahsF calls (List.range' (Int.toNat (0 : Int)) (calls.length - Int.toNat (0 : Int)))).length = ([] ++ ahsF calls (List.range' (Int.toNat (0 : Int)) (calls.length - Int.toNat (0 : Int)))).length) ∧ (((0 : Nat) = (0 : Nat)) ∧ (((IntKind.i64.wrap ((1 : Int) * (2 : Int) ^ min (↑calls.length : Int).toNat IntKind.i64.bits)).toNat = (List.replicate (IntKind.i64.wrap ((1 : Int) * (2 : Int) ^ min (↑calls.length : Int).toNat IntKind.i64.bits)).toNat (0 : Int)).length) ∧ ((okC (40 : Nat) calls q2 ([] ++ ahsF calls (List.range' (Int.toNat (0 : Int)) (calls.length - Int.toNat (0 : Int)))) (0 : Int) d60 ([], List.replicate (IntKind.i64.wrap ((1 : Int) * (2 : Int) ^ min (↑calls.length : Int).toNat IntKind.i64.bits)).toNat (0 : Int), (0 : Nat), [])) ∧ (bif !(comp (40 : Nat) calls q2 ([] ++ ahsF calls (List.range' (Int.toNat (0 : Int)) (calls.length - Int.toNat (0 : Int)))) (0 : Int) d60 ([], List.replicate (IntKind.i64.wrap ((1 : Int) * (2 : Int) ^ min (↑calls.length : Int).toNat IntKind.i64.bits)).toNat (0 : Int), (0 : Nat), [])).fst then k (.tup [⟨(.sl (.int .i64)), ([])⟩, ⟨.bool, (false)⟩]) else (((0 : Nat) + (comp (40 : Nat) calls q2 ([] ++ ahsF calls (List.range' (Int.toNat (0 : Int)) (calls.length - Int.toNat (0 : Int)))) (0 : Int) d60 ([], List.replicate (IntKind.i64.wrap ((1 : Int) * (2 : Int) ^ min (↑calls.length : Int).toNat IntKind.i64.bits)).toNat (0 : Int), (0 : Nat), [])).snd.snd.snd.fst ≤ (comp (40 : Nat) calls q2 ([] ++ ahsF calls (List.range' (Int.toNat (0 : Int)) (calls.length - Int.toNat (0 : Int)))) (0 : Int) d60 ([], List.replicate (IntKind.i64.wrap ((1 : Int) * (2 : Int) ^ min (↑calls.length : Int).toNat IntKind.i64.bits)).toNat (0 : Int), (0 : Nat), [])).snd.snd.snd.snd.length) ∧ k (.tup [⟨(.sl (.int .i64)), (List.take (comp (40 : Nat) calls q2 ([] ++ ahsF calls (List.range' (Int.toNat (0 : Int)) (calls.length - Int.toNat (0 : Int)))) (0 : Int) d60 ([], List.replicate (IntKind.i64.wrap ((1 : Int) * (2 : Int) ^ min (↑calls.length : Int).toNat IntKind.i64.bits)).toNat (0 : Int), (0 : Nat), [])).snd.snd.snd.fst (comp (40 : Nat) calls q2 ([] ++ ahsF calls (List.range' (Int.toNat (0 : Int)) (calls.length - Int.toNat (0 : Int)))) (0 : Int) d60 ([], List.replicate (IntKind.i64.wrap ((1 : Int) * (2 : Int) ^ min (↑calls.length : Int).toNat IntKind.i64.bits)).toNat (0 : Int), (0 : Nat), [])).snd.snd.snd.snd)⟩, ⟨.bool, (true)⟩])))))))))))))))))))))
theorem main (calls : (List D30)) (k : AV → Prop) : (runFn C callF Try.f43 [.v (.sl (.pair (.int .u8) (.pair (.int .u64) (.pair (.pair (.int .u8) (.pair (.int .u64) (.pair (.int .u64) (.pair (.sl (.int .u8)) (.pair (.sl (.int .u8)) (.pair .bool (.pair (.int .u8) .unit))))))) (.pair (.int .u8) (.pair (.sl (.int .u8)) (.pair (.int .i64) (.pair (.int .i64) .unit)))))))) calls] [] (fun r H => coRes H [(.sl (.int .i64)), .bool] r k)) = Main calls k := by kernel_rfl
theorem loop9 (v : V9) (X : Nat → St → Prop) (R : St → Prop) : Q9 v X R → ∃ m, loopN C callF keep9 5 body9 ⟨0, [5], fun _ => False, X, R⟩ m (st9 v) := by
  refine loop_ind (fun v => Q9 v X R) (fun (cs, i, a, x16, x17, n, j, fl, ah, vs, od, cs', must, na, nv, nf, no) => cs.length - j.toNat) ?_ v
  rintro ⟨cs, i, a, x16, x17, n, j, fl, ah, vs, od, cs', must, na, nv, nf, no⟩ ⟨g0, g1, h0, h1, h2, rfl, h4⟩ N hN
  rw [round9]
  obtain ⟨j, rfl⟩ : ∃ a : Nat, j = a := ⟨j.toNat, by omega⟩
  dsimp only at hN
  rw [Int.toNat_natCast] at h4
  have h2' : cs.length ≤ 1073741824 := h2
  refine bif_d (fun hj => ?_) (fun hj => ?_)
  · have hn : j < cs.length := by omega
    rw [range_cons hn, ahF] at h4
    rw [Int.toNat_natCast, w64n (by omega)]
    refine ⟨by omega, by omega, g0, g1, bif_i (fun e => ⟨by omega, ?_⟩) (fun e => ?_)⟩
    · rw [e, cond_true] at h4
      exact hN (cs, i, u32or a (one j), x16, x17, (cs.length : Int), ((j + 1 : Nat) : Int), fl, ah, vs, od, cs', must, na, nv, nf, no) ⟨g0, g1, by omega, by omega, h2, rfl, by rw [Int.toNat_natCast]; exact h4⟩ (by dsimp only; omega)
    · rw [e, cond_false] at h4
      exact hN (cs, i, a, x16, x17, (cs.length : Int), ((j + 1 : Nat) : Int), fl, ah, vs, od, cs', must, na, nv, nf, no) ⟨g0, g1, by omega, by omega, h2, rfl, by rw [Int.toNat_natCast]; exact h4⟩ (by dsimp only; omega)
  · rw [show cs.length - j = 0 by omega, show List.range' j 0 = [] from rfl, ahF] at h4
    exact h4
theorem loop3 (v : V3) (X : Nat → St → Prop) (R : St → Prop) : Q3 v X R → ∃ m, loopN C callF keep3 5 body3 ⟨0, [], fun _ => False, X, R⟩ m (st3 v) := by
  refine loop_ind (fun v => Q3 v X R) (fun (cs, n, i, fl, ah, vs, od, cs', must, na, nv, nf, no) => cs.length - i.toNat) ?_ v
  rintro ⟨cs, n, i, fl, ah, vs, od, cs', must, na, nv, nf, no⟩ ⟨h0, h1, h2, rfl, rfl, h3, h4⟩ N hN
  rw [round3]
  obtain ⟨j, rfl⟩ : ∃ a : Nat, i = a := ⟨i.toNat, by omega⟩
  dsimp only at hN
  rw [Int.toNat_natCast] at h4
  have h2' : cs.length ≤ 1073741824 := h2
  refine bif_d (fun hj => ?_) (fun hj => ?_)
  · have hn : j < cs.length := by omega
    rw [range_cons hn, mustF, ahsF, List.map_cons] at h4
    rw [Int.toNat_natCast, w64n (by omega), List.take_length]
    have next : ∀ m', m' = (bif A.F41.val (cs.getD j d30) then u32or must (one (j : Int)) else must) → N (st3 (cs, (cs.length : Int), ((j + 1 : Nat) : Int), fl, ah ++ [ahF cs j (List.range' 0 cs.length) 0], vs, od, cs', m', ah.length + 1, nv, nf, no)) := by
      rintro m' rfl
      refine hN (cs, (cs.length : Int), ((j + 1 : Nat) : Int), fl, ah ++ [ahF cs j (List.range' 0 cs.length) 0], vs, od, cs', _, ah.length + 1, nv, nf, no) ⟨by omega, by omega, h2, rfl, by rw [List.length_append, List.length_singleton], by rw [List.length_append, List.length_singleton]; omega, ?_⟩ (by dsimp only; omega)
      rw [Int.toNat_natCast, List.append_assoc, ahsF, List.singleton_append]
      exact h4
    refine ⟨by omega, by omega, bif_i (fun e => ⟨by omega, rfl, by omega, by omega, by omega, by omega, h2, rfl, ?_⟩) (fun e => ⟨rfl, by omega, by omega, by omega, by omega, h2, rfl, ?_⟩)⟩
    · rw [e, cond_true] at next
      exact ⟨Nat.le_refl _, by omega, by decide, next _ rfl⟩
    · rw [e, cond_false] at next
      exact ⟨Nat.le_refl _, by omega, by decide, next _ rfl⟩
  · rw [show cs.length - j = 0 by omega, show List.range' j 0 = [] from rfl, ahsF, List.map_nil, List.append_nil] at h4
    exact h4 _ rfl
def fl0 (cs : List D30) : List Int := List.replicate (2 ^ cs.length) 0
def mustA (cs : List D30) : Int := mustF cs (List.range' 0 cs.length) 0
def ahsA (cs : List D30) : List Int := ahsF cs (List.range' 0 cs.length)
def jd (cs : List D30) : Bool × SS := comp 40 cs (mustA cs) (ahsA cs) 0 d60 ([], fl0 cs, 0, [])
def Pre (cs : List D30) : Prop := cs.length ≤ 16 ∧ okC 40 cs (mustA cs) (ahsA cs) 0 d60 ([], fl0 cs, 0, []) ∧ (jd cs).2.2.2.1 ≤ (jd cs).2.2.2.2.length
def val (cs : List D30) : List Int × Bool := bif !(jd cs).1 then ([], false) else ((jd cs).2.2.2.2.take (jd cs).2.2.2.1, true)
theorem two_pow : ∀ n : Nat, n < 17 → IntKind.i64.wrap ((1 : Int) * (2 : Int) ^ min n IntKind.i64.bits) = ((2 ^ n : Nat) : Int) ∧ 2 ^ n ≤ 65536 := by decide
theorem spec (calls : List D30) (k : AV → Prop) (h : AllP [Pre calls]) (hk : k (.tup [⟨.sl (.int .i64), (val calls).1⟩, ⟨.bool, (val calls).2⟩])) : Main calls k := by
  obtain ⟨⟨hl, hq, ho⟩, _⟩ := h
  obtain ⟨e1, e2⟩ := two_pow calls.length (by omega)
  have e0 : min ((calls.length : Int)).toNat IntKind.i64.bits = min calls.length IntKind.i64.bits := by rw [Int.toNat_natCast]
  unfold Main
  rw [e0, e1, Int.toNat_natCast]
  have hLB : calls.length ≤ LB := by have : LB = 1073741824 := rfl; omega
  refine ⟨by omega, rfl, Int.natCast_nonneg _, Int.ofNat_le.2 (Nat.le_trans e2 (by decide)), rfl, Int.le_refl 0, by omega, hLB, rfl, rfl, rfl, fun m hm => ?_⟩
  have hm' : m = mustA calls := hm
  subst hm'
  refine ⟨rfl, rfl, rfl, (List.length_replicate).symm, hq, bif_i (fun e => ?_) (fun e => ⟨?_, ?_⟩)⟩
  · have e' : (!(jd calls).1) = true := e
    unfold val at hk
    rw [e', cond_true] at hk
    exact hk
  · rw [Nat.zero_add]; exact ho
  · have e' : (!(jd calls).1) = false := e
    unfold val at hk
    rw [e', cond_false] at hk
    exact hk
noncomputable def ts : List Ty := [(.sl T30)]
noncomputable def G : List AV → PV := pg1 (.sl T30) (fun calls => [Pre calls]) (fun calls => .tup [⟨.sl (.int .i64), (val calls).1⟩, ⟨.bool, (val calls).2⟩])
theorem loopsOK : LoopsOK C callF (bodyOf Try.f43) := loopsOK_seek (tbl := loops) (fun _ => rfl) (by kernel_rfl) (List.forall_mem_cons.2 ⟨mkL_ok loop3, List.forall_mem_cons.2 ⟨mkL_ok loop9, fun _ h => nomatch h⟩⟩)
theorem pursOK : ∀ g ts F, C.pur g = some (ts, F) → SoundP Try.prog g F := purOf_ok (l := purs) (List.forall_mem_cons.2 ⟨Go.Proofs.Ytdjdbjcapenjeaa.A.F41.ok, List.forall_mem_cons.2 ⟨Go.Proofs.Ytdjdbjcapenjeaa.A.F54.ok, fun _ h => nomatch h⟩⟩)
theorem cfsOK : ∀ g, SoundF Try.prog g (callF g) := callsOK (l := [(55, Go.Proofs.Ytdjdbjcapenjeaa.KB.F55.cf)]) (List.forall_mem_cons.2 ⟨Go.Proofs.Ytdjdbjcapenjeaa.KB.F55.ok, fun _ h => nomatch h⟩)
theorem ok : SoundP Try.prog 43 G := by
  unfold G
  refine soundP_pg1 (soundF_run (C := C) (callF := callF) (tabOK C rfl rfl rfl) cfsOK pursOK Try.func43 (by kernel_rfl) loopsOK) [(.sl (.int .i64)), .bool] fun calls h => ?_
  rw [main]
  exact spec calls _ h rfl
end F43

end Go.Proofs.Ytdjdbjcapenjeaa.KC
