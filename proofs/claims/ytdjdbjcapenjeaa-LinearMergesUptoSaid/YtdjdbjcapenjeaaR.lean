/- Merge: the document's -/
import Derived.Test.YtdjdbjcapenjeaaDxTab
import Derived.Test.YtdjdbjcapenjeaaDx3
import Derived.Test.YtdjdbjcapenjeaaDxTy
import Derived.Test.YtdjdbjcapenjeaaQ
import Derived.Test.YtdjdbjcapenjeaaC
import Derived.Test.YtdjdbjcapenjeaaD
set_option linter.unusedVariables false
set_option maxRecDepth 100000
open Go Go.Proofs Go.Proofs.Ytdjdbjcapenjeaa.Dx Go.Proofs.Ytdjdbjcapenjeaa.Dx.TYtdjdbjcapenjeaa
namespace Go.Proofs.Ytdjdbjcapenjeaa.R
open D M N Q
namespace F15
abbrev V5 := (List D30) × (List (List Int)) × Nat × Int × (List Int)
noncomputable def st5 (v : V5) : St := ⟨[.v (.sl T30) (v.1), .v (.sl (.sl (.int .i64))) (v.2.1), .dead, .dead, .dead, .dead, .v .ref (.sl 0 0 (v.2.2.1)), .v (.int .i64) (v.2.2.2.1), .dead, .dead, .dead, .dead, .dead, .dead, .dead, .dead, .dead, .dead, .dead, .dead, .dead, .dead, .dead, .dead, .dead, .dead, .dead, .dead, .dead, .dead, .dead, .dead, .dead, .dead, .dead, .dead, .dead, .dead, .dead, .dead, .dead, .dead, .dead, .dead, .dead, .dead, .dead, .dead, .dead, .dead, .dead, .dead, .dead, .dead, .dead, .dead, .dead, .dead, .dead, .dead, .dead, .dead, .dead, .dead, .dead, .dead, .dead, .dead, .dead, .dead, .dead, .dead, .dead, .dead, .dead, .dead, .dead, .dead, .dead, .dead, .dead, .dead, .dead, .dead, .dead, .dead, .dead, .dead, .dead, .dead, .dead, .dead, .dead, .dead, .dead, .dead, .dead, .dead, .dead, .dead, .dead, .dead, .dead, .dead, .dead, .dead, .dead], [.row (.int .i64) (v.2.2.2.2) 3]⟩
noncomputable def dec5 (s : St) : Option V5 := match gV (.sl T30) (s.T.getD 0 .dead), gV (.sl (.sl (.int .i64))) (s.T.getD 1 .dead), gV .ref (s.T.getD 6 .dead), gV (.int .i64) (s.T.getD 7 .dead), gRow (.int .i64) s.H[0]? with | some a0, some a1, some a6, some a7, some b0 => some (a0, a1, rN (a6), a7, b0) | _, _, _, _, _ => none
noncomputable def keep5 : List Nat := [0, 1, 6, 7]
noncomputable def body5 : Code := bodyAt (loopsOf (bodyOf Try.f15)) 5
abbrev V11 := (List D30) × (List (List Int)) × (List Int) × Nat × (List Int)
noncomputable def st11 (v : V11) : St := ⟨[.v (.sl T30) (v.1), .v (.sl (.sl (.int .i64))) (v.2.1), .dead, .dead, .dead, .dead, .v (.sl (.int .i64)) (v.2.2.1), .dead, .v .ref (.sl 1 0 (v.2.2.2.1)), .dead, .dead, .dead, .dead, .dead, .dead, .dead, .dead, .dead, .dead, .dead, .dead, .dead, .dead, .dead, .dead, .dead, .dead, .dead, .dead, .dead, .dead, .dead, .dead, .dead, .dead, .dead, .dead, .dead, .dead, .dead, .dead, .dead, .dead, .dead, .dead, .dead, .dead, .dead, .dead, .dead, .dead, .dead, .dead, .dead, .dead, .dead, .dead, .dead, .dead, .dead, .dead, .dead, .dead, .dead, .dead, .dead, .dead, .dead, .dead, .dead, .dead, .dead, .dead, .dead, .dead, .dead, .dead, .dead, .dead, .dead, .dead, .dead, .dead, .dead, .dead, .dead, .dead, .dead, .dead, .dead, .dead, .dead, .dead, .dead, .dead, .dead, .dead, .dead, .dead, .dead, .dead, .dead, .dead, .dead, .dead, .dead, .dead], [.dead, .row (.int .i64) (v.2.2.2.2) 3]⟩
noncomputable def dec11 (s : St) : Option V11 := match gV (.sl T30) (s.T.getD 0 .dead), gV (.sl (.sl (.int .i64))) (s.T.getD 1 .dead), gV (.sl (.int .i64)) (s.T.getD 6 .dead), gV .ref (s.T.getD 8 .dead), gRow (.int .i64) s.H[1]? with | some a0, some a1, some a6, some a8, some b1 => some (a0, a1, a6, rN (a8), b1) | _, _, _, _, _ => none
noncomputable def keep11 : List Nat := [0, 1, 6, 8]
noncomputable def body11 : Code := bodyAt (loopsOf (bodyOf Try.f15)) 11
abbrev V14 := (List D30) × (List (List Int)) × (List Int) × Nat × Int × Int × (List Int)
noncomputable def st14 (v : V14) : St := ⟨[.v (.sl T30) (v.1), .v (.sl (.sl (.int .i64))) (v.2.1), .dead, .dead, .dead, .dead, .v (.sl (.int .i64)) (v.2.2.1), .dead, .v .ref (.sl 1 0 (v.2.2.2.1)), .v (.int .i64) (v.2.2.2.2.1), .v (.int .i64) (v.2.2.2.2.2.1), .dead, .dead, .dead, .dead, .dead, .dead, .dead, .dead, .dead, .dead, .dead, .dead, .dead, .dead, .dead, .dead, .dead, .dead, .dead, .dead, .dead, .dead, .dead, .dead, .dead, .dead, .dead, .dead, .dead, .dead, .dead, .dead, .dead, .dead, .dead, .dead, .dead, .dead, .dead, .dead, .dead, .dead, .dead, .dead, .dead, .dead, .dead, .dead, .dead, .dead, .dead, .dead, .dead, .dead, .dead, .dead, .dead, .dead, .dead, .dead, .dead, .dead, .dead, .dead, .dead, .dead, .dead, .dead, .dead, .dead, .dead, .dead, .dead, .dead, .dead, .dead, .dead, .dead, .dead, .dead, .dead, .dead, .dead, .dead, .dead, .dead, .dead, .dead, .dead, .dead, .dead, .dead, .dead, .dead, .dead, .dead], [.dead, .row (.int .i64) (v.2.2.2.2.2.2) 3]⟩
noncomputable def dec14 (s : St) : Option V14 := match gV (.sl T30) (s.T.getD 0 .dead), gV (.sl (.sl (.int .i64))) (s.T.getD 1 .dead), gV (.sl (.int .i64)) (s.T.getD 6 .dead), gV .ref (s.T.getD 8 .dead), gV (.int .i64) (s.T.getD 9 .dead), gV (.int .i64) (s.T.getD 10 .dead), gRow (.int .i64) s.H[1]? with | some a0, some a1, some a6, some a8, some a9, some a10, some b1 => some (a0, a1, a6, rN (a8), a9, a10, b1) | _, _, _, _, _, _, _ => none
noncomputable def keep14 : List Nat := [0, 1, 6, 8, 9, 10]
noncomputable def body14 : Code := bodyAt (loopsOf (bodyOf Try.f15)) 14
abbrev V18 := (List D30) × (List (List Int)) × (List Int) × Nat × Int × Int × Int × Int × (List Int)
noncomputable def st18 (v : V18) : St := ⟨[.v (.sl T30) (v.1), .v (.sl (.sl (.int .i64))) (v.2.1), .dead, .dead, .dead, .dead, .v (.sl (.int .i64)) (v.2.2.1), .dead, .v .ref (.sl 1 0 (v.2.2.2.1)), .v (.int .i64) (v.2.2.2.2.1), .v (.int .i64) (v.2.2.2.2.2.1), .v (.int .i64) (v.2.2.2.2.2.2.1), .v (.int .i64) (v.2.2.2.2.2.2.2.1), .dead, .dead, .dead, .dead, .dead, .dead, .dead, .dead, .dead, .dead, .dead, .dead, .dead, .dead, .dead, .dead, .dead, .dead, .dead, .dead, .dead, .dead, .dead, .dead, .dead, .dead, .dead, .dead, .dead, .dead, .dead, .dead, .dead, .dead, .dead, .dead, .dead, .dead, .dead, .dead, .dead, .dead, .dead, .dead, .dead, .dead, .dead, .dead, .dead, .dead, .dead, .dead, .dead, .dead, .dead, .dead, .dead, .dead, .dead, .dead, .dead, .dead, .dead, .dead, .dead, .dead, .dead, .dead, .dead, .dead, .dead, .dead, .dead, .dead, .dead, .dead, .dead, .dead, .dead, .dead, .dead, .dead, .dead, .dead, .dead, .dead, .dead, .dead, .dead, .dead, .dead, .dead, .dead, .dead], [.dead, .row (.int .i64) (v.2.2.2.2.2.2.2.2) 3]⟩
noncomputable def dec18 (s : St) : Option V18 := match gV (.sl T30) (s.T.getD 0 .dead), gV (.sl (.sl (.int .i64))) (s.T.getD 1 .dead), gV (.sl (.int .i64)) (s.T.getD 6 .dead), gV .ref (s.T.getD 8 .dead), gV (.int .i64) (s.T.getD 9 .dead), gV (.int .i64) (s.T.getD 10 .dead), gV (.int .i64) (s.T.getD 11 .dead), gV (.int .i64) (s.T.getD 12 .dead), gRow (.int .i64) s.H[1]? with | some a0, some a1, some a6, some a8, some a9, some a10, some a11, some a12, some b1 => some (a0, a1, a6, rN (a8), a9, a10, a11, a12, b1) | _, _, _, _, _, _, _, _, _ => none
noncomputable def keep18 : List Nat := [0, 1, 6, 8, 9, 10, 11, 12]
noncomputable def body18 : Code := bodyAt (loopsOf (bodyOf Try.f15)) 18
noncomputable def s0 (x0 : (List D30)) (x1 : (List (List Int))) (n6 : Nat) (h0 : (List Int)) : St := ⟨[.v (.sl T30) x0, .v (.sl (.sl (.int .i64))) x1, .dead, .dead, .dead, .dead, .v .ref (.sl 0 0 n6), .dead, .dead, .dead, .dead, .dead, .dead, .dead, .dead, .dead, .dead, .dead, .dead, .dead, .dead, .dead, .dead, .dead, .dead, .dead, .dead, .dead, .dead, .dead, .dead, .dead, .dead, .dead, .dead, .dead, .dead, .dead, .dead, .dead, .dead, .dead, .dead, .dead, .dead, .dead, .dead, .dead, .dead, .dead, .dead, .dead, .dead, .dead, .dead, .dead, .dead, .dead, .dead, .dead, .dead, .dead, .dead, .dead, .dead, .dead, .dead, .dead, .dead, .dead, .dead, .dead, .dead, .dead, .dead, .dead, .dead, .dead, .dead, .dead, .dead, .dead, .dead, .dead, .dead, .dead, .dead, .dead, .dead, .dead, .dead, .dead, .dead, .dead, .dead, .dead, .dead, .dead, .dead, .dead, .dead, .dead, .dead, .dead, .dead, .dead, .dead], [.row (.int .i64) h0 3]⟩
noncomputable def s1 (x5 : Int) (h1 : (List Int)) : St := ⟨[.dead, .dead, .dead, .dead, .v .nl (), .v (.int .i64) x5, .dead, .dead, .dead, .dead, .dead, .dead, .dead, .dead, .dead, .dead, .dead, .dead, .dead, .dead, .dead, .dead, .dead, .dead, .dead, .dead, .dead, .dead, .dead, .dead, .dead, .dead, .dead, .dead, .dead, .dead, .dead, .dead, .dead, .dead, .dead, .dead, .dead, .dead, .dead, .dead, .dead, .dead, .dead, .dead, .dead, .dead, .dead, .dead, .dead, .dead, .dead, .dead, .dead, .dead, .dead, .dead, .dead, .dead, .dead, .dead, .dead, .dead, .dead, .dead, .dead, .dead, .dead, .dead, .dead, .dead, .dead, .dead, .dead, .dead, .dead, .dead, .dead, .dead, .dead, .dead, .dead, .dead, .dead, .dead, .dead, .dead, .dead, .dead, .dead, .dead, .dead, .dead, .dead, .dead, .dead, .dead, .dead, .dead, .dead, .dead, .dead], [.dead, .row (.int .i64) h1 3]⟩
noncomputable def s2 (n8 : Nat) (h1 : (List Int)) : St := ⟨[.dead, .dead, .dead, .dead, .dead, .dead, .dead, .dead, .v .ref (.sl 1 0 n8), .dead, .dead, .dead, .dead, .dead, .dead, .dead, .dead, .dead, .dead, .dead, .dead, .dead, .dead, .dead, .dead, .dead, .dead, .dead, .dead, .dead, .dead, .dead, .dead, .dead, .dead, .dead, .dead, .dead, .dead, .dead, .dead, .dead, .dead, .dead, .dead, .dead, .dead, .dead, .dead, .dead, .dead, .dead, .dead, .dead, .dead, .dead, .dead, .dead, .dead, .dead, .dead, .dead, .dead, .dead, .dead, .dead, .dead, .dead, .dead, .dead, .dead, .dead, .dead, .dead, .dead, .dead, .dead, .dead, .dead, .dead, .dead, .dead, .dead, .dead, .dead, .dead, .dead, .dead, .dead, .dead, .dead, .dead, .dead, .dead, .dead, .dead, .dead, .dead, .dead, .dead, .dead, .dead, .dead, .dead, .dead, .dead, .dead], [.dead, .row (.int .i64) h1 3]⟩
noncomputable def s3 (x0 : (List D30)) (x1 : (List (List Int))) (x6 : (List Int)) (n8 : Nat) (x9 : Int) (h1 : (List Int)) : St := ⟨[.v (.sl T30) x0, .v (.sl (.sl (.int .i64))) x1, .dead, .dead, .dead, .dead, .v (.sl (.int .i64)) x6, .dead, .v .ref (.sl 1 0 n8), .v (.int .i64) x9, .dead, .dead, .dead, .dead, .dead, .dead, .dead, .dead, .dead, .dead, .dead, .dead, .dead, .dead, .dead, .dead, .dead, .dead, .dead, .dead, .dead, .dead, .dead, .dead, .dead, .dead, .dead, .dead, .dead, .dead, .dead, .dead, .dead, .dead, .dead, .dead, .dead, .dead, .dead, .dead, .dead, .dead, .dead, .dead, .dead, .dead, .dead, .dead, .dead, .dead, .dead, .dead, .dead, .dead, .dead, .dead, .dead, .dead, .dead, .dead, .dead, .dead, .dead, .dead, .dead, .dead, .dead, .dead, .dead, .dead, .dead, .dead, .dead, .dead, .dead, .dead, .dead, .dead, .dead, .dead, .dead, .dead, .dead, .dead, .dead, .dead, .dead, .dead, .dead, .dead, .dead, .dead, .dead, .dead, .dead, .dead, .dead], [.dead, .row (.int .i64) h1 3]⟩
noncomputable def s4 (x0 : (List D30)) (x1 : (List (List Int))) (x6 : (List Int)) (n8 : Nat) (x9 : Int) (x10 : Int) (x11 : Int) (h1 : (List Int)) : St := ⟨[.v (.sl T30) x0, .v (.sl (.sl (.int .i64))) x1, .dead, .dead, .dead, .dead, .v (.sl (.int .i64)) x6, .dead, .v .ref (.sl 1 0 n8), .v (.int .i64) x9, .v (.int .i64) x10, .v (.int .i64) x11, .dead, .dead, .dead, .dead, .dead, .dead, .dead, .dead, .dead, .dead, .dead, .dead, .dead, .dead, .dead, .dead, .dead, .dead, .dead, .dead, .dead, .dead, .dead, .dead, .dead, .dead, .dead, .dead, .dead, .dead, .dead, .dead, .dead, .dead, .dead, .dead, .dead, .dead, .dead, .dead, .dead, .dead, .dead, .dead, .dead, .dead, .dead, .dead, .dead, .dead, .dead, .dead, .dead, .dead, .dead, .dead, .dead, .dead, .dead, .dead, .dead, .dead, .dead, .dead, .dead, .dead, .dead, .dead, .dead, .dead, .dead, .dead, .dead, .dead, .dead, .dead, .dead, .dead, .dead, .dead, .dead, .dead, .dead, .dead, .dead, .dead, .dead, .dead, .dead, .dead, .dead, .dead, .dead, .dead, .dead], [.dead, .row (.int .i64) h1 3]⟩
def frE (cs : List D30) (left : List Int) (i : Int) : Bool := left.all fun y => !A.F42.val (cs.getD y.toNat d30) (cs.getD i.toNat d30)
/-- The first of an order that is left. -/
def fsT (left : List Int) (k : Int) : List Int → Int
  | [] => k
  | x :: r => bif left.any (fun y => y == x) then x else fsT left k r
def bsD (cs : List D30) (left : List Int) : List (List Int) → Int → Int
  | [], b => b
  | o :: r, b => bsD cs left r (bif decide (fsT left (-1) o ≥ 0) then (bif frE cs left (fsT left (-1) o) then (bif decide (b < 0) then fsT left (-1) o else bif decide (fsT left (-1) o < b) then fsT left (-1) o else b) else b) else b)
def mgD (cs : List D30) (orders : List (List Int)) : Nat → List Int → List Int → Bool × List Int
  | 0, _, out => (true, out)
  | f + 1, left, out => bif decide ((left.length : Int) > 0) then (bif decide (bsD cs left orders (-1) < 0) then (false, out) else mgD cs orders f (left.filter (· != bsD cs left orders (-1))) (out ++ [bsD cs left orders (-1)])) else (true, out)
def LR (cs : List D30) (left : List Int) : Prop := left.length ≤ LB ∧ ∀ y ∈ left, 0 ≤ y ∧ y < (cs.length : Int)
def Q5 : V5 → (Nat → St → Prop) → (St → Prop) → Prop := fun (cs, orders, n6, i, h) X R => 0 ≤ i ∧ i ≤ orders.length ∧ orders.length ≤ LB ∧ n6 = h.length ∧ (h ++ (orders.drop i.toNat).flatten).length ≤ LB ∧
  X 0 (s0 cs orders (h ++ (orders.drop i.toNat).flatten).length (h ++ (orders.drop i.toNat).flatten))
def Q18 : V18 → (Nat → St → Prop) → (St → Prop) → Prop := fun (cs, orders, left, n8, b, i, k, j, out) X R => 0 ≤ i ∧ i < orders.length ∧ -1 ≤ j ∧ j < (orders.getD i.toNat []).length ∧ (orders.getD i.toNat []).length ≤ LB ∧ left.length ≤ LB ∧
  X 6 (s4 cs orders left n8 b i (fsT left k ((orders.getD i.toNat []).take (j + 1).toNat)) out)
def Q14 : V14 → (Nat → St → Prop) → (St → Prop) → Prop := fun (cs, orders, left, n8, b, i, out) X R => 0 ≤ i ∧ i ≤ orders.length ∧ orders.length ≤ LB ∧ F37.OR cs orders ∧ LR cs left ∧
  X 4 (s3 cs orders left n8 (bsD cs left (orders.drop i.toNat) b) out)
def Q11 : V11 → (Nat → St → Prop) → (St → Prop) → Prop := fun (cs, orders, left, n8, out) X R => n8 = out.length ∧ orders.length ≤ LB ∧ F37.OR cs orders ∧ LR cs left ∧ out.length + left.length ≤ LB ∧
  bif (mgD cs orders left.length left out).1 then X 2 (s2 (mgD cs orders left.length left out).2.length (mgD cs orders left.length left out).2) else ∀ o : List Int, R (s1 142 o)
noncomputable def purs : List (Nat × (List Ty × (List AV → PV))) := [(34, (Go.Proofs.Ytdjdbjcapenjeaa.C.F34.ts, Go.Proofs.Ytdjdbjcapenjeaa.C.F34.G)), (35, (Go.Proofs.Ytdjdbjcapenjeaa.D.F35.ts, Go.Proofs.Ytdjdbjcapenjeaa.D.F35.G)), (36, (Go.Proofs.Ytdjdbjcapenjeaa.D.F36.ts, Go.Proofs.Ytdjdbjcapenjeaa.D.F36.G)), (37, (Go.Proofs.Ytdjdbjcapenjeaa.Q.F37.ts, Go.Proofs.Ytdjdbjcapenjeaa.Q.F37.G)), (38, (Go.Proofs.Ytdjdbjcapenjeaa.C.F38.ts, Go.Proofs.Ytdjdbjcapenjeaa.C.F38.G)), (39, (Go.Proofs.Ytdjdbjcapenjeaa.Q.F39.ts, Go.Proofs.Ytdjdbjcapenjeaa.Q.F39.G)), (40, (Go.Proofs.Ytdjdbjcapenjeaa.Q.F40.ts, Go.Proofs.Ytdjdbjcapenjeaa.Q.F40.G))]
noncomputable def callF (g : FuncId) : CF := fun _ _ _ => False
noncomputable def L5 : K → Nat → St → Prop := mkL dec5 st5 0 1 [] Q5
noncomputable def L11 : K → Nat → St → Prop := mkL dec11 st11 0 2 [] Q11
noncomputable def L14 : K → Nat → St → Prop := mkL dec14 st14 0 2 [2] Q14
noncomputable def L18 : K → Nat → St → Prop := mkL dec18 st18 0 2 [2, 2] Q18
noncomputable def loops : List (Nat × (List Nat × (K → Nat → St → Prop))) := [(5, (keep5, L5)), (11, (keep11, L11)), (14, (keep14, L14)), (18, (keep18, L18))]
noncomputable def C : Ctx := { ti := ti, meth := meth, can := can, pur := purOf purs, loops := fun i => seek loops i, gh := fun _ => [], owns := fun i => seek [(6, ((.int .i64), 3)), (8, ((.int .i64), 3))] i, frz := [29], xk := fun i => seek [(0, ([0, 1, 6], 0)), (2, ([8], 0)), (4, ([0, 1, 6, 8, 9], 0)), (6, ([0, 1, 6, 8, 9, 10, 11], 0))] i, rk := some ([4, 5], 2) }
noncomputable def Round5 (x0 : (List D30)) (x1 : (List (List Int))) (n6 : Nat) (x7 : Int) (h0 : (List Int)) (N : St → Prop) (X : Nat → St → Prop) (R : St → Prop) : Prop :=
  (bif decide (x7 < (↑x1.length : Int)) then (((0 : Int) ≤ x7) ∧ ((x7 < (↑x1.length : Int)) ∧ ((n6 ≤ h0.length) ∧ ((n6 + List.length (x1.getD x7.toNat []) ≤ (8796093022208 : Nat)) ∧ N (st5 (x0, x1, n6 + List.length (x1.getD x7.toNat []), IntKind.i64.wrap (x7 + (1 : Int)), List.take n6 h0 ++ x1.getD x7.toNat [])))))) else X 0 (s0 (x0) (x1) (n6) (h0)))
theorem round5 (x0 : (List D30)) (x1 : (List (List Int))) (n6 : Nat) (x7 : Int) (h0 : (List Int)) (N : St → Prop) (X : Nat → St → Prop) (R : St → Prop) : exec C callF body5 ⟨0, [1], fun s' => cond (Nat.ble 1 s'.H.length) (N (scrub keep5 1 s')) False, X, R⟩ (st5 (x0, x1, n6, x7, h0)) = Round5 x0 x1 n6 x7 h0 N X R := by kernel_rfl
noncomputable def Round11 (x0 : (List D30)) (x1 : (List (List Int))) (x6 : (List Int)) (n8 : Nat) (h1 : (List Int)) (N : St → Prop) (X : Nat → St → Prop) (R : St → Prop) : Prop :=
  (bif decide ((↑x6.length : Int) > (0 : Int)) then (st14 (x0, x1, x6, n8, (-1 : Int), (0 : Int), h1) = st14 (x0, x1, x6, n8, (-1 : Int), (0 : Int), h1) ∧ (((0 : Int) ≤ (0 : Int)) ∧ (((0 : Int) ≤ (↑x1.length : Int)) ∧ ((x1.length ≤ LB) ∧ ((F37.OR x0 x1) ∧ ((LR x0 x6) ∧ (bif decide (bsD x0 x6 x1 (-1 : Int) < (0 : Int)) then R (s1 ((142 : Int)) (h1)) else ((n8 ≤ h1.length) ∧ ((n8 + (1 : Nat) ≤ (8796093022208 : Nat)) ∧ (((0 : Nat) + (1 : Nat) ≤ (1 : Nat)) ∧ ((x6.length ≤ LB) ∧ N (st11 (x0, x1, List.filter (fun (x : (Ty.int IntKind.i64).D) => x != bsD x0 x6 x1 (-1 : Int)) x6, n8 + (1 : Nat), List.take n8 h1 ++ [bsD x0 x6 x1 (-1 : Int)]))))))))))))) else X 2 (s2 (n8) (h1)))
theorem round11 (x0 : (List D30)) (x1 : (List (List Int))) (x6 : (List Int)) (n8 : Nat) (h1 : (List Int)) (N : St → Prop) (X : Nat → St → Prop) (R : St → Prop) : exec C callF body11 ⟨0, [2], fun s' => cond (Nat.ble 2 s'.H.length) (N (scrub keep11 2 s')) False, X, R⟩ (st11 (x0, x1, x6, n8, h1)) = Round11 x0 x1 x6 n8 h1 N X R := by kernel_rfl
noncomputable def Round14 (x0 : (List D30)) (x1 : (List (List Int))) (x6 : (List Int)) (n8 : Nat) (x9 : Int) (x10 : Int) (h1 : (List Int)) (N : St → Prop) (X : Nat → St → Prop) (R : St → Prop) : Prop :=
  (bif decide (x10 < (↑x1.length : Int)) then (((0 : Int) ≤ x10) ∧ ((x10 < (↑x1.length : Int)) ∧ (st18 (x0, x1, x6, n8, x9, x10, (-1 : Int), IntKind.i64.wrap ((↑(List.length (x1.getD x10.toNat [])) : Int) - (1 : Int)), h1) = st18 (x0, x1, x6, n8, x9, x10, (-1 : Int), IntKind.i64.wrap ((↑(List.length (x1.getD x10.toNat [])) : Int) - (1 : Int)), h1) ∧ (((0 : Int) ≤ x10) ∧ ((x10 < (↑x1.length : Int)) ∧ (((-1 : Int) ≤ IntKind.i64.wrap ((↑(List.length (x1.getD x10.toNat [])) : Int) - (1 : Int))) ∧ ((IntKind.i64.wrap ((↑(List.length (x1.getD x10.toNat [])) : Int) - (1 : Int)) < (↑(x1.getD x10.toNat []).length : Int)) ∧ (((x1.getD x10.toNat []).length ≤ LB) ∧ ((x6.length ≤ LB) ∧ (bif decide (fsT x6 (-1 : Int) (List.take (IntKind.i64.wrap ((↑(List.length (x1.getD x10.toNat [])) : Int) - (1 : Int)) + (1 : Int)).toNat (x1.getD x10.toNat [])) ≥ (0 : Int)) then ((x6.length ≤ LB) ∧ ((∀ (y : (Ty.int IntKind.i64).D), y ∈ x6 → (0 : (Ty.int IntKind.i64).D) ≤ y ∧ y < (↑x0.length : Int)) ∧ (((0 : (Ty.int IntKind.i64).D) ≤ fsT x6 (-1 : Int) (List.take (IntKind.i64.wrap ((↑(List.length (x1.getD x10.toNat [])) : Int) - (1 : Int)) + (1 : Int)).toNat (x1.getD x10.toNat []))) ∧ ((fsT x6 (-1 : Int) (List.take (IntKind.i64.wrap ((↑(List.length (x1.getD x10.toNat [])) : Int) - (1 : Int)) + (1 : Int)).toNat (x1.getD x10.toNat [])) < (↑x0.length : Int)) ∧ (bif x6.all fun (y : (Ty.int IntKind.i64).D) => !A.F42.val (x0.getD (Int.toNat y) d30) (x0.getD (fsT x6 (-1 : Int) (List.take (IntKind.i64.wrap ((↑(List.length (x1.getD x10.toNat [])) : Int) - (1 : Int)) + (1 : Int)).toNat (x1.getD x10.toNat []))).toNat d30) then (bif decide (x9 < (0 : Int)) then N (st14 (x0, x1, x6, n8, fsT x6 (-1 : Int) (List.take (IntKind.i64.wrap ((↑(List.length (x1.getD x10.toNat [])) : Int) - (1 : Int)) + (1 : Int)).toNat (x1.getD x10.toNat [])), IntKind.i64.wrap (x10 + (1 : Int)), h1)) else (bif decide (fsT x6 (-1 : Int) (List.take (IntKind.i64.wrap ((↑(List.length (x1.getD x10.toNat [])) : Int) - (1 : Int)) + (1 : Int)).toNat (x1.getD x10.toNat [])) < x9) then N (st14 (x0, x1, x6, n8, fsT x6 (-1 : Int) (List.take (IntKind.i64.wrap ((↑(List.length (x1.getD x10.toNat [])) : Int) - (1 : Int)) + (1 : Int)).toNat (x1.getD x10.toNat [])), IntKind.i64.wrap (x10 + (1 : Int)), h1)) else N (st14 (x0, x1, x6, n8, x9, IntKind.i64.wrap (x10 + (1 : Int)), h1)))) else N (st14 (x0, x1, x6, n8, x9, IntKind.i64.wrap (x10 + (1 : Int)), h1))))))) else N (st14 (x0, x1, x6, n8, x9, IntKind.i64.wrap (x10 + (1 : Int)), h1)))))))))))) else X 4 (s3 (x0) (x1) (x6) (n8) (x9) (h1)))
theorem round14 (x0 : (List D30)) (x1 : (List (List Int))) (x6 : (List Int)) (n8 : Nat) (x9 : Int) (x10 : Int) (h1 : (List Int)) (N : St → Prop) (X : Nat → St → Prop) (R : St → Prop) : exec C callF body14 ⟨0, [2, 2], fun s' => cond (Nat.ble 2 s'.H.length) (N (scrub keep14 2 s')) False, X, R⟩ (st14 (x0, x1, x6, n8, x9, x10, h1)) = Round14 x0 x1 x6 n8 x9 x10 h1 N X R := by kernel_rfl
noncomputable def Round18 (x0 : (List D30)) (x1 : (List (List Int))) (x6 : (List Int)) (n8 : Nat) (x9 : Int) (x10 : Int) (x11 : Int) (x12 : Int) (h1 : (List Int)) (N : St → Prop) (X : Nat → St → Prop) (R : St → Prop) : Prop :=
  (bif decide (x12 ≥ (0 : Int)) then (((0 : Int) ≤ x10) ∧ ((x10 < (↑x1.length : Int)) ∧ (((0 : Int) ≤ x12) ∧ ((x12 < (↑(List.length (x1.getD x10.toNat [])) : Int)) ∧ ((x6.length ≤ LB) ∧ (bif x6.any fun (x : (Ty.int IntKind.i64).D) => x == List.getD (x1.getD x10.toNat []) x12.toNat (0 : Int) then (((0 : Int) ≤ x10) ∧ ((x10 < (↑x1.length : Int)) ∧ (((0 : Int) ≤ x12) ∧ ((x12 < (↑(List.length (x1.getD x10.toNat [])) : Int)) ∧ N (st18 (x0, x1, x6, n8, x9, x10, List.getD (x1.getD x10.toNat []) x12.toNat (0 : Int), IntKind.i64.wrap (x12 - (1 : Int)), h1)))))) else N (st18 (x0, x1, x6, n8, x9, x10, x11, IntKind.i64.wrap (x12 - (1 : Int)), h1)))))))) else X 6 (s4 (x0) (x1) (x6) (n8) (x9) (x10) (x11) (h1)))
theorem round18 (x0 : (List D30)) (x1 : (List (List Int))) (x6 : (List Int)) (n8 : Nat) (x9 : Int) (x10 : Int) (x11 : Int) (x12 : Int) (h1 : (List Int)) (N : St → Prop) (X : Nat → St → Prop) (R : St → Prop) : exec C callF body18 ⟨0, [2, 2, 2], fun s' => cond (Nat.ble 2 s'.H.length) (N (scrub keep18 2 s')) False, X, R⟩ (st18 (x0, x1, x6, n8, x9, x10, x11, x12, h1)) = Round18 x0 x1 x6 n8 x9 x10 x11 x12 h1 N X R := by kernel_rfl
noncomputable def Main (calls : (List D30)) (orders : (List (List Int))) (k : AV → Prop) : Prop :=
  ((calls.length ≤ LB) ∧ (bif !calls.all B.F25.val then k (.tup [⟨(.sl (.int .i64)), ([])⟩, ⟨(.int .i64), ((140 : Int))⟩]) else (st5 (calls, orders, (0 : Nat), (0 : Int), []) = st5 (calls, orders, (0 : Nat), (0 : Int), []) ∧ (((0 : Int) ≤ (0 : Int)) ∧ (((0 : Int) ≤ (↑orders.length : Int)) ∧ ((orders.length ≤ LB) ∧ (((0 : Nat) = (0 : Nat)) ∧ ((([] ++ orders.flatten).length ≤ LB) ∧ (((0 : Nat) + ([] ++ orders.flatten).length ≤ ([] ++ orders.flatten).length) ∧ (((0 : Nat) + ([] ++ orders.flatten).length ≤ ([] ++ orders.flatten).length) ∧ (((List.take ([] ++ orders.flatten).length ([] ++ orders.flatten)).length ≤ LB) ∧ (bif !lst calls [] (List.take ([] ++ orders.flatten).length ([] ++ orders.flatten)) then k (.tup [⟨(.sl (.int .i64)), ([])⟩, ⟨(.int .i64), ((142 : Int))⟩]) else ((calls.length ≤ LB) ∧ (((List.take ([] ++ orders.flatten).length ([] ++ orders.flatten)).length ≤ LB) ∧ (bif !(List.range' (0 : Nat) calls.length).all (F36.inOr calls (List.take ([] ++ orders.flatten).length ([] ++ orders.flatten))) then k (.tup [⟨(.sl (.int .i64)), ([])⟩, ⟨(.int .i64), ((142 : Int))⟩]) else ((orders.length ≤ LB) ∧ ((F37.OR calls orders) ∧ (bif !(List.range' (0 : Nat) orders.length).all (F37.apO calls orders) then k (.tup [⟨(.sl (.int .i64)), ([])⟩, ⟨(.int .i64), ((142 : Int))⟩]) else (st11 (calls, orders, List.take ([] ++ orders.flatten).length ([] ++ orders.flatten), (0 : Nat), []) = st11 (calls, orders, List.take ([] ++ orders.flatten).length ([] ++ orders.flatten), (0 : Nat), []) ∧ (((0 : Nat) = (0 : Nat)) ∧ ((orders.length ≤ LB) ∧ ((F37.OR calls orders) ∧ ((LR calls (List.take ([] ++ orders.flatten).length ([] ++ orders.flatten))) ∧ (((0 : Nat) + (List.take ([] ++ orders.flatten).length ([] ++ orders.flatten)).length ≤ LB) ∧ (bif (mgD calls orders (List.take ([] ++ orders.flatten).length ([] ++ orders.flatten)).length (List.take ([] ++ orders.flatten).length ([] ++ orders.flatten)) []).fst then (((0 : Nat) + (mgD calls orders (List.take ([] ++ orders.flatten).length ([] ++ orders.flatten)).length (List.take ([] ++ orders.flatten).length ([] ++ orders.flatten)) []).snd.length ≤ (mgD calls orders (List.take ([] ++ orders.flatten).length ([] ++ orders.flatten)).length (List.take ([] ++ orders.flatten).length ([] ++ orders.flatten)) []).snd.length) ∧ k (.tup [⟨(.sl (.int .i64)), (List.take (mgD calls orders (List.take ([] ++ orders.flatten).length ([] ++ orders.flatten)).length (List.take ([] ++ orders.flatten).length ([] ++ orders.flatten)) []).snd.length (mgD calls orders (List.take ([] ++ orders.flatten).length ([] ++ orders.flatten)).length (List.take ([] ++ orders.flatten).length ([] ++ orders.flatten)) []).snd)⟩, ⟨(.int .i64), ((0 : Int))⟩])) else (∀ q3 : List Int, k (.tup [⟨(.sl (.int .i64)), ([])⟩, ⟨(.int .i64), ((142 : Int))⟩])))))))))))))))))))))))))))
theorem main (calls : (List D30)) (orders : (List (List Int))) (k : AV → Prop) : (runFn C callF Try.f15 [.v (.sl (.pair (.int .u8) (.pair (.int .u64) (.pair (.pair (.int .u8) (.pair (.int .u64) (.pair (.int .u64) (.pair (.sl (.int .u8)) (.pair (.sl (.int .u8)) (.pair .bool (.pair (.int .u8) .unit))))))) (.pair (.int .u8) (.pair (.sl (.int .u8)) (.pair (.int .i64) (.pair (.int .i64) .unit)))))))) calls, .v (.sl (.sl (.int .i64))) orders] [] (fun r H => coRes H [(.sl (.int .i64)), (.int .i64)] r k)) = Main calls orders k := by kernel_rfl
theorem loop5 (v : V5) (X : Nat → St → Prop) (R : St → Prop) : Q5 v X R → ∃ m, loopN C callF keep5 1 body5 ⟨0, [], fun _ => False, X, R⟩ m (st5 v) := by
  refine loop_ind (fun v => Q5 v X R) (fun (cs, orders, n6, i, h) => orders.length - i.toNat) ?_ v
  rintro ⟨cs, orders, n6, i, h⟩ ⟨h0, h1, h2, rfl, h3, h4⟩ N hN
  rw [round5]
  obtain ⟨j, rfl⟩ : ∃ a : Nat, i = a := ⟨i.toNat, by omega⟩
  dsimp only at hN
  rw [Int.toNat_natCast] at h4 h3
  have h2' : orders.length ≤ 1073741824 := h2
  have h3' : _ ≤ 1073741824 := h3
  refine bif_d (fun hj => ?_) (fun hj => ?_)
  · have hn : j < orders.length := by omega
    rw [drop_cons hn [], List.flatten_cons, ← List.append_assoc] at h4 h3 h3'
    rw [Int.toNat_natCast, w64n (by omega), List.take_length]
    rw [List.length_append, List.length_append] at h3'
    refine ⟨by omega, by omega, Nat.le_refl _, by omega, ?_⟩
    exact hN (cs, orders, h.length + (orders.getD j []).length, ((j + 1 : Nat) : Int), h ++ orders.getD j []) ⟨by omega, by omega, h2, by simp, by rw [Int.toNat_natCast]; exact h3, by rw [Int.toNat_natCast]; exact h4⟩ (by dsimp only; omega)
  · rw [List.drop_eq_nil_of_le (by omega), List.flatten_nil, List.append_nil] at h4
    exact h4
theorem fsT_snoc (left : List Int) (x : Int) : ∀ (o : List Int) (k : Int), fsT left k (o ++ [x]) = fsT left (bif left.any (fun y => y == x) then x else k) o
  | [], k => rfl
  | y :: r, k => by rw [List.cons_append, fsT, fsT, fsT_snoc left x r k]
theorem loop18 (v : V18) (X : Nat → St → Prop) (R : St → Prop) : Q18 v X R → ∃ m, loopN C callF keep18 2 body18 ⟨0, [2, 2], fun _ => False, X, R⟩ m (st18 v) := by
  refine loop_ind (fun v => Q18 v X R) (fun (cs, orders, left, n8, b, i, k, j, out) => (j + 1).toNat) ?_ v
  rintro ⟨cs, orders, left, n8, b, i, k, j, out⟩ ⟨h0, h1, h2, h3, h5, h6, h4⟩ N hN
  rw [round18]
  dsimp only at hN
  have h5' : (orders.getD i.toNat []).length ≤ 1073741824 := h5
  refine bif_d (fun hj => ?_) (fun hj => ?_)
  · obtain ⟨j, rfl⟩ : ∃ a : Nat, j = a := ⟨j.toNat, by omega⟩
    have hn : j < (orders.getD i.toNat []).length := by omega
    rw [show ((j : Int) + 1).toNat = j + 1 by omega, take_snoc hn 0, fsT_snoc] at h4
    rw [Int.toNat_natCast, show IntKind.i64.wrap ((j : Int) - 1) = (j : Int) - 1 from w64 (by omega) (by omega)]
    refine ⟨h0, h1, by omega, h3, h6, bif_i (fun x => ⟨h0, h1, by omega, h3, ?_⟩) (fun x => ?_)⟩
    · rw [show (left.any fun y => y == (orders.getD i.toNat []).getD j 0) = true from x, cond_true] at h4
      exact hN (cs, orders, left, n8, b, i, (orders.getD i.toNat []).getD j 0, (j : Int) - 1, out) ⟨h0, h1, by omega, by omega, h5, h6, by rw [show ((j : Int) - 1 + 1).toNat = j by omega]; exact h4⟩ (by dsimp only; omega)
    · rw [show (left.any fun y => y == (orders.getD i.toNat []).getD j 0) = false from x, cond_false] at h4
      exact hN (cs, orders, left, n8, b, i, k, (j : Int) - 1, out) ⟨h0, h1, by omega, by omega, h5, h6, by rw [show ((j : Int) - 1 + 1).toNat = j by omega]; exact h4⟩ (by dsimp only; omega)
  · rw [show (j + 1).toNat = 0 by omega, List.take_zero, fsT] at h4
    exact h4
theorem fsT_in (left : List Int) : ∀ (o : List Int) (k : Int), fsT left k o = k ∨ fsT left k o ∈ left
  | [], k => .inl rfl
  | x :: r, k => by
    rw [fsT]
    cases e : left.any (fun y => y == x) with
    | false => exact fsT_in left r k
    | true =>
      obtain ⟨y, h1, h2⟩ := List.any_eq_true.1 e
      rw [beq_iff_eq] at h2
      exact .inr (h2 ▸ h1)
theorem loop14 (v : V14) (X : Nat → St → Prop) (R : St → Prop) : Q14 v X R → ∃ m, loopN C callF keep14 2 body14 ⟨0, [2], fun _ => False, X, R⟩ m (st14 v) := by
  refine loop_ind (fun v => Q14 v X R) (fun (cs, orders, left, n8, b, i, out) => orders.length - i.toNat) ?_ v
  rintro ⟨cs, orders, left, n8, b, i, out⟩ ⟨h0, h1, h2, hO, hL, h4⟩ N hN
  rw [round14]
  obtain ⟨i, rfl⟩ : ∃ a : Nat, i = a := ⟨i.toNat, by omega⟩
  dsimp only at hN
  rw [Int.toNat_natCast] at h4
  have h2' : orders.length ≤ 1073741824 := h2
  refine bif_d (fun hj => ?_) (fun hj => ?_)
  · have hn : i < orders.length := by omega
    obtain ⟨g1, g2⟩ := hO _ (C.F9.getD_mem hn [])
    have g1' : (orders.getD i []).length ≤ 1073741824 := g1
    rw [drop_cons hn [], bsD] at h4
    have ew : IntKind.i64.wrap (((orders.getD i []).length : Int) - 1) = ((orders.getD i []).length : Int) - 1 := w64 (by omega) (by omega)
    have et : List.take (((orders.getD i []).length : Int) - 1 + 1).toNat (orders.getD i []) = orders.getD i [] := by rw [show (((orders.getD i []).length : Int) - 1 + 1).toNat = (orders.getD i []).length by omega, List.take_length]
    rw [Int.toNat_natCast, w64n (by omega), ew, et]
    generalize hk : fsT left (-1) (orders.getD i []) = k at h4 ⊢
    have next : ∀ b' : Int, X 4 (s3 cs orders left n8 (bsD cs left (orders.drop (i + 1)) b') out) → N (st14 (cs, orders, left, n8, b', ((i + 1 : Nat) : Int), out)) := fun b' x =>
      hN (cs, orders, left, n8, b', ((i + 1 : Nat) : Int), out) ⟨by omega, by omega, h2, hO, hL, by rw [Int.toNat_natCast]; exact x⟩ (by dsimp only; omega)
    refine ⟨by omega, by omega, rfl, by omega, by omega, by omega, by omega, g1, hL.1, bif_d (fun hk0 => ?_) (fun hk0 => ?_)⟩
    · rw [decide_eq_true hk0, cond_true] at h4
      have hkl : k ∈ left := by
        rcases fsT_in left (orders.getD i []) (-1) with e | e
        · rw [hk] at e; omega
        · rw [hk] at e; exact e
      obtain ⟨k1, k2⟩ := hL.2 _ hkl
      refine ⟨hL.1, hL.2, k1, k2, bif_i (fun x => ?_) (fun x => ?_)⟩
      · rw [show frE cs left k = true from x, cond_true] at h4
        refine bif_d (fun y => ?_) (fun y => bif_d (fun z => ?_) (fun z => ?_))
        · rw [decide_eq_true y, cond_true] at h4; exact next _ h4
        · rw [decide_eq_false y, cond_false, decide_eq_true z, cond_true] at h4; exact next _ h4
        · rw [decide_eq_false y, cond_false, decide_eq_false z, cond_false] at h4; exact next _ h4
      · rw [show frE cs left k = false from x, cond_false] at h4
        exact next _ h4
    · rw [decide_eq_false hk0, cond_false] at h4
      exact next _ h4
  · rw [List.drop_eq_nil_of_le (by omega)] at h4
    exact h4
theorem bsD_in (cs : List D30) (left : List Int) : ∀ (os : List (List Int)) (b : Int), bsD cs left os b = b ∨ bsD cs left os b ∈ left
  | [], b => .inl rfl
  | o :: r, b => by
    rw [bsD]
    have hk : fsT left (-1) o ≥ 0 → fsT left (-1) o ∈ left := fun h => by
      rcases fsT_in left o (-1) with e | e
      · omega
      · exact e
    by_cases h0 : fsT left (-1) o ≥ 0
    · have hk := hk h0
      rw [decide_eq_true h0, cond_true]
      generalize fsT left (-1) o = k at hk ⊢
      have new : bsD cs left r k = b ∨ bsD cs left r k ∈ left := by
        rcases bsD_in cs left r k with e | e
        · rw [e]; exact .inr hk
        · exact .inr e
      cases frE cs left k with
      | false => exact bsD_in cs left r b
      | true =>
        rw [cond_true]
        cases decide (b < 0) with
        | true => exact new
        | false =>
          cases decide (k < b) with
          | true => exact new
          | false => exact bsD_in cs left r b
    · rw [decide_eq_false h0]
      exact bsD_in cs left r b
theorem filt_lt (x : Int) : ∀ (l : List Int), x ∈ l → (l.filter (· != x)).length < l.length
  | y :: r, h => by
    rw [List.filter_cons]
    by_cases e : y = x
    · subst e
      rw [show (y != y) = false by simp, if_neg (by decide), List.length_cons]
      have := List.length_filter_le (· != y) r
      omega
    · rw [show (y != x) = true by rw [bne_iff_ne]; exact e, if_pos rfl, List.length_cons, List.length_cons]
      have := filt_lt x r ((List.mem_cons.1 h).resolve_left fun h => e h.symm)
      omega
theorem bsD_lt {cs : List D30} {left : List Int} {os : List (List Int)} (h : ¬ bsD cs left os (-1) < 0) : (left.filter (· != bsD cs left os (-1))).length < left.length := by
  rcases bsD_in cs left os (-1) with e | e
  · rw [e] at h; exact absurd (by decide) h
  · exact filt_lt _ _ e
theorem mgD_fuel (cs : List D30) (orders : List (List Int)) : ∀ (f g : Nat) (left out : List Int), left.length ≤ f → left.length ≤ g → mgD cs orders f left out = mgD cs orders g left out
  | 0, 0, _, _, _, _ => rfl
  | 0, g + 1, left, out, h, _ => by
    rw [mgD, mgD, decide_eq_false (show ¬ (left.length : Int) > 0 by omega)]; rfl
  | f + 1, 0, left, out, _, h => by
    rw [mgD, mgD, decide_eq_false (show ¬ (left.length : Int) > 0 by omega)]; rfl
  | f + 1, g + 1, left, out, h1, h2 => by
    rw [mgD, mgD]
    by_cases hb : bsD cs left orders (-1) < 0
    · rw [decide_eq_true hb]; rfl
    · have := bsD_lt hb
      rw [decide_eq_false hb, cond_false, cond_false, mgD_fuel cs orders f g _ _ (by omega) (by omega)]
theorem loop11 (v : V11) (X : Nat → St → Prop) (R : St → Prop) : Q11 v X R → ∃ m, loopN C callF keep11 2 body11 ⟨0, [], fun _ => False, X, R⟩ m (st11 v) := by
  refine loop_ind (fun v => Q11 v X R) (fun (cs, orders, left, n8, out) => left.length) ?_ v
  rintro ⟨cs, orders, left, n8, out⟩ ⟨rfl, h1, hO, hL, h2, h4⟩ N hN
  rw [round11]
  dsimp only at hN
  have h2' : out.length + left.length ≤ 1073741824 := h2
  refine bif_d (fun hj => ?_) (fun hj => ?_)
  · obtain ⟨f, hf⟩ : ∃ f, left.length = f + 1 := ⟨left.length - 1, by omega⟩
    rw [show mgD cs orders left.length left out = mgD cs orders (f + 1) left out by rw [hf], mgD, decide_eq_true hj, cond_true] at h4
    refine ⟨rfl, by omega, by omega, h1, hO, hL, bif_d (fun x => ?_) (fun x => ?_)⟩
    · rw [decide_eq_true x, cond_true] at h4
      exact h4 _
    · have hlt := bsD_lt x
      rw [decide_eq_false x, cond_false, mgD_fuel cs orders f _ _ _ (by omega) (Nat.le_refl _)] at h4
      refine ⟨Nat.le_refl _, by omega, by decide, hL.1, ?_⟩
      rw [List.take_length]
      exact hN (cs, orders, left.filter (· != bsD cs left orders (-1)), out.length + 1, out ++ [bsD cs left orders (-1)]) ⟨by simp, h1, hO, ⟨by omega, fun y hy => hL.2 y (List.mem_filter.1 hy).1⟩, by rw [List.length_append, List.length_singleton]; omega, h4⟩ hlt
  · rw [List.eq_nil_of_length_eq_zero (show left.length = 0 by omega)] at h4
    exact h4
/-- The document's answer. -/
def val (cs : List D30) (orders : List (List Int)) : List Int × Int := bif cs.all B.F25.val then (bif lst cs [] orders.flatten then (bif (List.range' 0 cs.length).all (D.F36.inOr cs orders.flatten) then (bif (List.range' 0 orders.length).all (F37.apO cs orders) then
    (bif (mgD cs orders orders.flatten.length orders.flatten []).1 then ((mgD cs orders orders.flatten.length orders.flatten []).2, 0) else ([], 142)) else ([], 142)) else ([], 142)) else ([], 142)) else ([], 140)
theorem spec (cs : List D30) (orders : List (List Int)) (k : AV → Prop) (h : AllP [cs.length ≤ LB, orders.length ≤ LB, orders.flatten.length ≤ LB, lst cs [] orders.flatten = true → F37.OR cs orders]) (hk : k (.tup [⟨.sl (.int .i64), (val cs orders).1⟩, ⟨.int .i64, (val cs orders).2⟩])) : Main cs orders k := by
  obtain ⟨hc, ho, hf, hO, _⟩ := h
  unfold val at hk
  have hn : ∀ {b : Bool}, (!b) = true → b = false := fun h => by simpa using h
  have hm : ∀ {b : Bool}, (!b) = false → b = true := fun h => by simpa using h
  unfold Main
  rw [List.nil_append, List.take_length]
  refine ⟨hc, bif_i (fun x => ?_) (fun x => ⟨rfl, by omega, by omega, ho, rfl, hf, by omega, by omega, hf, bif_i (fun y => ?_) (fun y => ⟨hc, hf, bif_i (fun z => ?_) (fun z => ⟨ho, hO (hm y), bif_i (fun u => ?_) (fun u => ⟨rfl, rfl, ho, hO (hm y), ⟨hf, fun w hw => ?_⟩, by omega, bif_i (fun t => ⟨by omega, ?_⟩) (fun t => fun _ => ?_)⟩)⟩)⟩)⟩)⟩
  · rw [hn x] at hk; exact hk
  · rw [hm x, hn y] at hk; exact hk
  · rw [hm x, hm y, hn z] at hk; exact hk
  · rw [hm x, hm y, hm z, hn u] at hk; exact hk
  · have := lst_in _ _ (hm y) w hw
    unfold okAt at this
    simp only [Bool.and_eq_true, decide_eq_true_eq] at this
    exact this.1
  · rw [hm x, hm y, hm z, hm u, cond_true, cond_true, cond_true, cond_true, t, cond_true] at hk
    rw [List.take_length]; exact hk
  · rw [hm x, hm y, hm z, hm u, cond_true, cond_true, cond_true, cond_true, t, cond_false] at hk
    exact hk
noncomputable def ts : List Ty := [(.sl T30), (.sl (.sl (.int .i64)))]
noncomputable def G : List AV → PV := pg2 (.sl T30) (.sl (.sl (.int .i64))) (fun calls orders => [calls.length ≤ LB, orders.length ≤ LB, orders.flatten.length ≤ LB, lst calls [] orders.flatten = true → F37.OR calls orders]) (fun calls orders => .tup [⟨.sl (.int .i64), (val calls orders).1⟩, ⟨.int .i64, (val calls orders).2⟩])
theorem loopsOK : LoopsOK C callF (bodyOf Try.f15) := loopsOK_seek (tbl := loops) (fun _ => rfl) (by kernel_rfl) (List.forall_mem_cons.2 ⟨mkL_ok loop5, List.forall_mem_cons.2 ⟨mkL_ok loop11, List.forall_mem_cons.2 ⟨mkL_ok loop14, List.forall_mem_cons.2 ⟨mkL_ok loop18, fun _ h => nomatch h⟩⟩⟩⟩)
theorem pursOK : ∀ g ts F, C.pur g = some (ts, F) → SoundP Try.prog g F := purOf_ok (l := purs) (List.forall_mem_cons.2 ⟨Go.Proofs.Ytdjdbjcapenjeaa.C.F34.ok, List.forall_mem_cons.2 ⟨Go.Proofs.Ytdjdbjcapenjeaa.D.F35.ok, List.forall_mem_cons.2 ⟨Go.Proofs.Ytdjdbjcapenjeaa.D.F36.ok, List.forall_mem_cons.2 ⟨Go.Proofs.Ytdjdbjcapenjeaa.Q.F37.ok, List.forall_mem_cons.2 ⟨Go.Proofs.Ytdjdbjcapenjeaa.C.F38.ok, List.forall_mem_cons.2 ⟨Go.Proofs.Ytdjdbjcapenjeaa.Q.F39.ok, List.forall_mem_cons.2 ⟨Go.Proofs.Ytdjdbjcapenjeaa.Q.F40.ok, fun _ h => nomatch h⟩⟩⟩⟩⟩⟩⟩)
theorem cfsOK : ∀ g, SoundF Try.prog g (callF g) := fun g => soundF_none g
theorem ok : SoundP Try.prog 15 G := by
  unfold G
  refine soundP_pg2 (soundF_run (C := C) (callF := callF) (tabOK C rfl rfl rfl) cfsOK pursOK Try.func15 (by kernel_rfl) loopsOK) [(.sl (.int .i64)), (.int .i64)] fun calls orders h => ?_
  rw [main]
  exact spec calls orders _ h rfl
end F15

end Go.Proofs.Ytdjdbjcapenjeaa.R
