/- the program's Obeys -/
import Derived.Test.YtdjdbjcapenjeaaDxTab
import Derived.Test.YtdjdbjcapenjeaaDx3
import Derived.Test.YtdjdbjcapenjeaaDxTy
import Derived.Test.YtdjdbjcapenjeaaD
import Derived.Test.YtdjdbjcapenjeaaA
import Derived.Test.YtdjdbjcapenjeaaB
import Derived.Test.YtdjdbjcapenjeaaC
set_option linter.unusedVariables false
set_option maxRecDepth 100000
open Go Go.Proofs Go.Proofs.Ytdjdbjcapenjeaa.Dx Go.Proofs.Ytdjdbjcapenjeaa.Dx.TYtdjdbjcapenjeaa
namespace Go.Proofs.Ytdjdbjcapenjeaa.E
open D
namespace F18
abbrev V5 := (List D30) × (List Int) × Nat × (List Int) × Int × Int × (List Int)
noncomputable def st5 (v : V5) : St := ⟨[.v (.sl T30) (v.1), .v (.sl (.int .i64)) (v.2.1), .dead, .dead, .dead, .v .ref (.sl 0 0 (v.2.2.1)), .dead, .dead, .dead, .dead, .dead, .dead, .dead, .dead, .dead, .dead, .dead, .dead, .dead, .dead, .dead, .dead, .dead, .v (.sl (.int .i64)) (v.2.2.2.1), .v (.int .i64) (v.2.2.2.2.1), .v (.int .i64) (v.2.2.2.2.2.1), .dead, .dead, .dead, .dead, .dead, .dead, .dead, .dead, .dead, .dead, .dead, .dead, .dead, .dead, .dead, .dead, .dead, .dead, .dead, .dead, .dead, .dead, .dead, .dead, .dead, .dead, .dead, .dead, .dead, .dead, .dead, .dead, .dead, .dead, .dead, .dead, .dead, .dead, .dead, .dead, .dead, .dead, .dead, .dead, .dead, .dead, .dead, .dead, .dead, .dead, .dead, .dead, .dead, .dead, .dead, .dead, .dead, .dead, .dead, .dead, .dead, .dead, .dead, .dead, .dead, .dead, .dead, .dead, .dead, .dead, .dead, .dead, .dead, .dead, .dead, .dead, .dead, .dead, .dead, .dead, .dead, .dead, .dead, .dead, .dead, .dead, .dead, .dead, .dead, .dead, .dead, .dead, .dead, .dead, .dead, .dead, .dead, .dead, .dead, .dead, .dead, .dead, .dead, .dead], [.row (.int .i64) (v.2.2.2.2.2.2) 3]⟩
noncomputable def dec5 (s : St) : Option V5 := match gV (.sl T30) (s.T.getD 0 .dead), gV (.sl (.int .i64)) (s.T.getD 1 .dead), gV .ref (s.T.getD 5 .dead), gV (.sl (.int .i64)) (s.T.getD 23 .dead), gV (.int .i64) (s.T.getD 24 .dead), gV (.int .i64) (s.T.getD 25 .dead), gRow (.int .i64) s.H[0]? with | some a0, some a1, some a5, some a23, some a24, some a25, some b0 => some (a0, a1, rN (a5), a23, a24, a25, b0) | _, _, _, _, _, _, _ => none
noncomputable def keep5 : List Nat := [0, 1, 5, 23, 24, 25]
noncomputable def body5 : Code := bodyAt (loopsOf (bodyOf Try.f18)) 5
abbrev V12 := (List D30) × (List Int) × Nat × (List D30) × Int × Int × (List Int)
noncomputable def st12 (v : V12) : St := ⟨[.v (.sl T30) (v.1), .v (.sl (.int .i64)) (v.2.1), .dead, .dead, .dead, .v .ref (.sl 0 0 (v.2.2.1)), .dead, .dead, .dead, .dead, .dead, .dead, .dead, .dead, .dead, .dead, .dead, .dead, .dead, .dead, .dead, .dead, .dead, .dead, .dead, .dead, .dead, .dead, .dead, .dead, .dead, .dead, .dead, .dead, .dead, .dead, .dead, .dead, .dead, .dead, .dead, .dead, .dead, .dead, .dead, .dead, .dead, .dead, .dead, .dead, .dead, .dead, .dead, .dead, .dead, .dead, .dead, .dead, .v (.sl T30) (v.2.2.2.1), .v (.int .i64) (v.2.2.2.2.1), .v (.int .i64) (v.2.2.2.2.2.1), .dead, .dead, .dead, .dead, .dead, .dead, .dead, .dead, .dead, .dead, .dead, .dead, .dead, .dead, .dead, .dead, .dead, .dead, .dead, .dead, .dead, .dead, .dead, .dead, .dead, .dead, .dead, .dead, .dead, .dead, .dead, .dead, .dead, .dead, .dead, .dead, .dead, .dead, .dead, .dead, .dead, .dead, .dead, .dead, .dead, .dead, .dead, .dead, .dead, .dead, .dead, .dead, .dead, .dead, .dead, .dead, .dead, .dead, .dead, .dead, .dead, .dead, .dead, .dead, .dead, .dead, .dead, .dead, .dead], [.row (.int .i64) (v.2.2.2.2.2.2) 3]⟩
noncomputable def dec12 (s : St) : Option V12 := match gV (.sl T30) (s.T.getD 0 .dead), gV (.sl (.int .i64)) (s.T.getD 1 .dead), gV .ref (s.T.getD 5 .dead), gV (.sl T30) (s.T.getD 58 .dead), gV (.int .i64) (s.T.getD 59 .dead), gV (.int .i64) (s.T.getD 60 .dead), gRow (.int .i64) s.H[0]? with | some a0, some a1, some a5, some a58, some a59, some a60, some b0 => some (a0, a1, rN (a5), a58, a59, a60, b0) | _, _, _, _, _, _, _ => none
noncomputable def keep12 : List Nat := [0, 1, 5, 58, 59, 60]
noncomputable def body12 : Code := bodyAt (loopsOf (bodyOf Try.f18)) 12
abbrev V20 := (List D30) × Int × (List Int) × Int × Int × (List Int) × (List (Int × D60))
noncomputable def st20 (v : V20) : St := ⟨[.v (.sl T30) (v.1), .dead, .dead, .dead, .dead, .dead, .dead, .dead, .dead, .dead, .v (.int .i64) (v.2.1), .v .ref (.mp 1), .dead, .dead, .dead, .dead, .dead, .dead, .dead, .dead, .dead, .dead, .dead, .dead, .dead, .dead, .dead, .dead, .dead, .dead, .dead, .dead, .dead, .dead, .dead, .dead, .dead, .dead, .dead, .dead, .dead, .dead, .dead, .dead, .dead, .dead, .dead, .dead, .dead, .dead, .dead, .dead, .dead, .dead, .dead, .dead, .dead, .dead, .dead, .dead, .dead, .dead, .dead, .dead, .dead, .dead, .dead, .dead, .dead, .dead, .dead, .dead, .dead, .dead, .dead, .dead, .dead, .dead, .dead, .dead, .dead, .v (.sl (.int .i64)) (v.2.2.1), .v (.int .i64) (v.2.2.2.1), .v (.int .i64) (v.2.2.2.2.1), .dead, .dead, .dead, .dead, .dead, .dead, .dead, .dead, .dead, .dead, .dead, .dead, .dead, .dead, .dead, .dead, .dead, .dead, .dead, .dead, .dead, .dead, .dead, .dead, .dead, .dead, .dead, .dead, .dead, .dead, .dead, .dead, .dead, .dead, .dead, .dead, .dead, .dead, .dead, .dead, .dead, .dead, .dead, .dead, .dead, .dead], [.row (.int .i64) (v.2.2.2.2.2.1) 3, .map (.int .u64) T60 (v.2.2.2.2.2.2)]⟩
noncomputable def dec20 (s : St) : Option V20 := match gV (.sl T30) (s.T.getD 0 .dead), gV (.int .i64) (s.T.getD 10 .dead), gV (.sl (.int .i64)) (s.T.getD 81 .dead), gV (.int .i64) (s.T.getD 82 .dead), gV (.int .i64) (s.T.getD 83 .dead), gRow (.int .i64) s.H[0]?, gMap T60 s.H[1]? with | some a0, some a10, some a81, some a82, some a83, some b0, some b1 => some (a0, a10, a81, a82, a83, b0, b1) | _, _, _, _, _, _, _ => none
noncomputable def keep20 : List Nat := [0, 10, 11, 81, 82, 83]
noncomputable def body20 : Code := bodyAt (loopsOf (bodyOf Try.f18)) 20
noncomputable def s0 (x4 : Bool) : St := ⟨[.dead, .dead, .dead, .dead, .v .bool x4, .dead, .dead, .dead, .dead, .dead, .dead, .dead, .dead, .dead, .dead, .dead, .dead, .dead, .dead, .dead, .dead, .dead, .dead, .dead, .dead, .dead, .dead, .dead, .dead, .dead, .dead, .dead, .dead, .dead, .dead, .dead, .dead, .dead, .dead, .dead, .dead, .dead, .dead, .dead, .dead, .dead, .dead, .dead, .dead, .dead, .dead, .dead, .dead, .dead, .dead, .dead, .dead, .dead, .dead, .dead, .dead, .dead, .dead, .dead, .dead, .dead, .dead, .dead, .dead, .dead, .dead, .dead, .dead, .dead, .dead, .dead, .dead, .dead, .dead, .dead, .dead, .dead, .dead, .dead, .dead, .dead, .dead, .dead, .dead, .dead, .dead, .dead, .dead, .dead, .dead, .dead, .dead, .dead, .dead, .dead, .dead, .dead, .dead, .dead, .dead, .dead, .dead, .dead, .dead, .dead, .dead, .dead, .dead, .dead, .dead, .dead, .dead, .dead, .dead, .dead, .dead, .dead, .dead, .dead, .dead, .dead, .dead, .dead, .dead, .dead], []⟩
noncomputable def s1 (x0 : (List D30)) (x1 : (List Int)) (n5 : Nat) (h0 : (List Int)) : St := ⟨[.v (.sl T30) x0, .v (.sl (.int .i64)) x1, .dead, .dead, .dead, .v .ref (.sl 0 0 n5), .dead, .dead, .dead, .dead, .dead, .dead, .dead, .dead, .dead, .dead, .dead, .dead, .dead, .dead, .dead, .dead, .dead, .dead, .dead, .dead, .dead, .dead, .dead, .dead, .dead, .dead, .dead, .dead, .dead, .dead, .dead, .dead, .dead, .dead, .dead, .dead, .dead, .dead, .dead, .dead, .dead, .dead, .dead, .dead, .dead, .dead, .dead, .dead, .dead, .dead, .dead, .dead, .dead, .dead, .dead, .dead, .dead, .dead, .dead, .dead, .dead, .dead, .dead, .dead, .dead, .dead, .dead, .dead, .dead, .dead, .dead, .dead, .dead, .dead, .dead, .dead, .dead, .dead, .dead, .dead, .dead, .dead, .dead, .dead, .dead, .dead, .dead, .dead, .dead, .dead, .dead, .dead, .dead, .dead, .dead, .dead, .dead, .dead, .dead, .dead, .dead, .dead, .dead, .dead, .dead, .dead, .dead, .dead, .dead, .dead, .dead, .dead, .dead, .dead, .dead, .dead, .dead, .dead, .dead, .dead, .dead, .dead, .dead, .dead], [.row (.int .i64) h0 3]⟩
noncomputable def s2 (x0 : (List D30)) (x1 : (List Int)) (h0 : (List Int)) : St := ⟨[.v (.sl T30) x0, .v (.sl (.int .i64)) x1, .dead, .dead, .dead, .dead, .dead, .dead, .dead, .dead, .dead, .dead, .dead, .dead, .dead, .dead, .dead, .dead, .dead, .dead, .dead, .dead, .dead, .dead, .dead, .dead, .dead, .dead, .dead, .dead, .dead, .dead, .dead, .dead, .dead, .dead, .dead, .dead, .dead, .dead, .dead, .dead, .dead, .dead, .dead, .dead, .dead, .dead, .dead, .dead, .dead, .dead, .dead, .dead, .dead, .dead, .dead, .dead, .dead, .dead, .dead, .dead, .dead, .dead, .dead, .dead, .dead, .dead, .dead, .dead, .dead, .dead, .dead, .dead, .dead, .dead, .dead, .dead, .dead, .dead, .dead, .dead, .dead, .dead, .dead, .dead, .dead, .dead, .dead, .dead, .dead, .dead, .dead, .dead, .dead, .dead, .dead, .dead, .dead, .dead, .dead, .dead, .dead, .dead, .dead, .dead, .dead, .dead, .dead, .dead, .dead, .dead, .dead, .dead, .dead, .dead, .dead, .dead, .dead, .dead, .dead, .dead, .dead, .dead, .dead, .dead, .dead, .dead, .dead, .dead], [.row (.int .i64) h0 3]⟩
noncomputable def s3 (h0 : (List Int)) (h1 : (List (Int × D60))) : St := ⟨[.dead, .dead, .dead, .dead, .dead, .dead, .dead, .dead, .dead, .dead, .dead, .dead, .dead, .dead, .dead, .dead, .dead, .dead, .dead, .dead, .dead, .dead, .dead, .dead, .dead, .dead, .dead, .dead, .dead, .dead, .dead, .dead, .dead, .dead, .dead, .dead, .dead, .dead, .dead, .dead, .dead, .dead, .dead, .dead, .dead, .dead, .dead, .dead, .dead, .dead, .dead, .dead, .dead, .dead, .dead, .dead, .dead, .dead, .dead, .dead, .dead, .dead, .dead, .dead, .dead, .dead, .dead, .dead, .dead, .dead, .dead, .dead, .dead, .dead, .dead, .dead, .dead, .dead, .dead, .dead, .dead, .dead, .dead, .dead, .dead, .dead, .dead, .dead, .dead, .dead, .dead, .dead, .dead, .dead, .dead, .dead, .dead, .dead, .dead, .dead, .dead, .dead, .dead, .dead, .dead, .dead, .dead, .dead, .dead, .dead, .dead, .dead, .dead, .dead, .dead, .dead, .dead, .dead, .dead, .dead, .dead, .dead, .dead, .dead, .dead, .dead, .dead, .dead, .dead, .dead], [.row (.int .i64) h0 3, .map (.int .u64) T60 h1]⟩
/-- Places are told of just the calls that stood. -/
def plc (cs : List D30) (pre : List Int) (h : List Int) : Prop := ∀ y : Nat, y < cs.length → (pre.any (· == (y : Int)) = true → 0 < h.getD y 0) ∧ (pre.any (· == (y : Int)) = false → h.getD y 0 = 0)
def inPl (cs : List D30) (h : List Int) (i : Nat) : Bool := !(A.F41.val (cs.getD i d30) && !(A.F28.val (cs.getD i d30))) || !(h.getD i 0 == 0)
/-- The calls of an order, one behind the other: the latest begin so far, what each key has. -/
def rn (cs : List D30) : List Int → Int → List (Int × D60) → Bool
  | [], _, _ => true
  | y :: r, last, es => bif A.F41.val (cs.getD y.toNat d30) && decide ((cs.getD y.toNat d30).2.2.2.2.2.2.1 < last) then false else
    bif !(B.F29.val (cs.getD y.toNat d30) (lookA d60 es (cs.getD y.toNat d30).2.2.1.2.1)).2 then false else
    rn cs r (bif decide ((cs.getD y.toNat d30).2.2.2.2.2.1 > last) then (cs.getD y.toNat d30).2.2.2.2.2.1 else last) (setA es (cs.getD y.toNat d30).2.2.1.2.1 (B.F29.val (cs.getD y.toNat d30) (lookA d60 es (cs.getD y.toNat d30).2.2.1.2.1)).1)
def Q5 : V5 → (Nat → St → Prop) → (St → Prop) → Prop := fun (cs, o, n5, o', n, i, h) X R => 0 ≤ i ∧ i ≤ o.length ∧ o.length ≤ LB ∧ cs.length ≤ LB ∧ o = o' ∧ n = o.length ∧ n5 = cs.length ∧ h.length = cs.length ∧ plc cs (o.take i.toNat) h ∧
  bif lst cs (o.take i.toNat) (o.drop i.toNat) then (∀ h' : List Int, h'.length = cs.length → plc cs o h' → X 0 (s1 cs o n5 h')) else R (s0 false)
def Q12 : V12 → (Nat → St → Prop) → (St → Prop) → Prop := fun (cs, o, n5, cs', n, i, h) X R => 0 ≤ i ∧ i ≤ cs.length ∧ cs.length ≤ LB ∧ cs = cs' ∧ n = cs.length ∧ n5 = cs.length ∧ h.length = cs.length ∧
  bif (List.range' i.toNat (cs.length - i.toNat)).all (inPl cs h) then X 2 (s2 cs o h) else R (s0 false)
def Q20 : V20 → (Nat → St → Prop) → (St → Prop) → Prop := fun (cs, last, o, n, i, h, es) X R => 0 ≤ i ∧ i ≤ o.length ∧ o.length ≤ LB ∧ n = o.length ∧ (∀ y ∈ o, 0 ≤ y ∧ y < cs.length) ∧
  bif rn cs (o.drop i.toNat) last es then (∀ e : List (Int × D60), X 4 (s3 h e)) else R (s0 false)
noncomputable def purs : List (Nat × (List Ty × (List AV → PV))) := [(28, (Go.Proofs.Ytdjdbjcapenjeaa.A.F28.ts, Go.Proofs.Ytdjdbjcapenjeaa.A.F28.G)), (29, (Go.Proofs.Ytdjdbjcapenjeaa.B.F29.ts, Go.Proofs.Ytdjdbjcapenjeaa.B.F29.G)), (31, (Go.Proofs.Ytdjdbjcapenjeaa.C.F31.ts, Go.Proofs.Ytdjdbjcapenjeaa.C.F31.G)), (41, (Go.Proofs.Ytdjdbjcapenjeaa.A.F41.ts, Go.Proofs.Ytdjdbjcapenjeaa.A.F41.G))]
noncomputable def callF (g : FuncId) : CF := fun _ _ _ => False
noncomputable def L5 : K → Nat → St → Prop := mkL dec5 st5 0 1 [] Q5
noncomputable def L12 : K → Nat → St → Prop := mkL dec12 st12 0 1 [] Q12
noncomputable def L20 : K → Nat → St → Prop := mkL dec20 st20 0 2 [] Q20
noncomputable def loops : List (Nat × (List Nat × (K → Nat → St → Prop))) := [(5, (keep5, L5)), (12, (keep12, L12)), (20, (keep20, L20))]
noncomputable def C : Ctx := { ti := ti, meth := meth, can := can, pur := purOf purs, loops := fun i => seek loops i, gh := fun _ => [], xk := fun i => seek [(0, ([0, 1, 5], 0)), (2, ([0, 1], 0)), (4, ([], 0))] i, rk := some ([4], 0) }
noncomputable def Round5 (x0 : (List D30)) (x1 : (List Int)) (n5 : Nat) (x23 : (List Int)) (x24 : Int) (x25 : Int) (h0 : (List Int)) (N : St → Prop) (X : Nat → St → Prop) (R : St → Prop) : Prop :=
  (bif decide (x25 < x24) then (((0 : Int) ≤ x25) ∧ ((x25 < (↑x23.length : Int)) ∧ (bif decide (x23.getD x25.toNat (0 : Int) < (0 : Int)) then R (s0 (false)) else (bif decide (x23.getD x25.toNat (0 : Int) ≥ (↑x0.length : Int)) then R (s0 (false)) else (((0 : Int) ≤ x23.getD x25.toNat (0 : Int)) ∧ ((x23.getD x25.toNat (0 : Int) < (↑n5 : Int)) ∧ ((Int.toNat (x23.getD x25.toNat (0 : Int)) < h0.length) ∧ (bif decide (h0.getD (Int.toNat (x23.getD x25.toNat (0 : Int))) (0 : Int) > (0 : Int)) then R (s0 (false)) else (((0 : Int) ≤ x23.getD x25.toNat (0 : Int)) ∧ ((x23.getD x25.toNat (0 : Int) < (↑x0.length : Int)) ∧ (bif A.F28.val (x0.getD (Int.toNat (x23.getD x25.toNat (0 : Int))) d30) then R (s0 (false)) else (((0 : Int) ≤ x23.getD x25.toNat (0 : Int)) ∧ ((x23.getD x25.toNat (0 : Int) < (↑n5 : Int)) ∧ ((Int.toNat (x23.getD x25.toNat (0 : Int)) < h0.length) ∧ N (st5 (x0, x1, n5, x23, x24, IntKind.i64.wrap (x25 + (1 : Int)), h0.set (Int.toNat (x23.getD x25.toNat (0 : Int))) (IntKind.i64.wrap (x25 + (1 : Int))))))))))))))))))) else X 0 (s1 (x0) (x1) (n5) (h0)))
theorem round5 (x0 : (List D30)) (x1 : (List Int)) (n5 : Nat) (x23 : (List Int)) (x24 : Int) (x25 : Int) (h0 : (List Int)) (N : St → Prop) (X : Nat → St → Prop) (R : St → Prop) : exec C callF body5 ⟨0, [1], fun s' => cond (Nat.ble 1 s'.H.length) (N (scrub keep5 1 s')) False, X, R⟩ (st5 (x0, x1, n5, x23, x24, x25, h0)) = Round5 x0 x1 n5 x23 x24 x25 h0 N X R := by kernel_rfl
noncomputable def Round12 (x0 : (List D30)) (x1 : (List Int)) (n5 : Nat) (x58 : (List D30)) (x59 : Int) (x60 : Int) (h0 : (List Int)) (N : St → Prop) (X : Nat → St → Prop) (R : St → Prop) : Prop :=
  (bif decide (x60 < x59) then (((0 : Int) ≤ x60) ∧ ((x60 < (↑x58.length : Int)) ∧ (bif A.F41.val (x58.getD x60.toNat d30) then (bif !A.F28.val (x58.getD x60.toNat d30) then (((0 : Int) ≤ x60) ∧ ((x60 < (↑n5 : Int)) ∧ ((x60.toNat < h0.length) ∧ (bif h0.getD x60.toNat (0 : Int) == (0 : Int) then R (s0 (false)) else N (st12 (x0, x1, n5, x58, x59, IntKind.i64.wrap (x60 + (1 : Int)), h0)))))) else N (st12 (x0, x1, n5, x58, x59, IntKind.i64.wrap (x60 + (1 : Int)), h0))) else N (st12 (x0, x1, n5, x58, x59, IntKind.i64.wrap (x60 + (1 : Int)), h0))))) else X 2 (s2 (x0) (x1) (h0)))
theorem round12 (x0 : (List D30)) (x1 : (List Int)) (n5 : Nat) (x58 : (List D30)) (x59 : Int) (x60 : Int) (h0 : (List Int)) (N : St → Prop) (X : Nat → St → Prop) (R : St → Prop) : exec C callF body12 ⟨0, [1], fun s' => cond (Nat.ble 1 s'.H.length) (N (scrub keep12 1 s')) False, X, R⟩ (st12 (x0, x1, n5, x58, x59, x60, h0)) = Round12 x0 x1 n5 x58 x59 x60 h0 N X R := by kernel_rfl
noncomputable def Round20 (x0 : (List D30)) (x10 : Int) (x81 : (List Int)) (x82 : Int) (x83 : Int) (h0 : (List Int)) (h1 : (List (Int × D60))) (N : St → Prop) (X : Nat → St → Prop) (R : St → Prop) : Prop :=
  (bif decide (x83 < x82) then (((0 : Int) ≤ x83) ∧ ((x83 < (↑x81.length : Int)) ∧ (((0 : Int) ≤ x81.getD x83.toNat (0 : Int)) ∧ ((x81.getD x83.toNat (0 : Int) < (↑x0.length : Int)) ∧ (bif A.F41.val (x0.getD (Int.toNat (x81.getD x83.toNat (0 : Int))) d30) then (bif decide ((x0.getD (Int.toNat (x81.getD x83.toNat (0 : Int))) d30).snd.snd.snd.snd.snd.snd.fst < x10) then R (s0 (false)) else (bif !(B.F29.val (x0.getD (Int.toNat (x81.getD x83.toNat (0 : Int))) d30) (lookA d60 h1 (x0.getD (Int.toNat (x81.getD x83.toNat (0 : Int))) d30).snd.snd.fst.snd.fst)).snd then R (s0 (false)) else N (st20 (x0, bif decide ((x0.getD (Int.toNat (x81.getD x83.toNat (0 : Int))) d30).snd.snd.snd.snd.snd.fst > x10) then (x0.getD (Int.toNat (x81.getD x83.toNat (0 : Int))) d30).snd.snd.snd.snd.snd.fst else x10, x81, x82, IntKind.i64.wrap (x83 + (1 : Int)), h0, setA h1 (x0.getD (Int.toNat (x81.getD x83.toNat (0 : Int))) d30).snd.snd.fst.snd.fst (B.F29.val (x0.getD (Int.toNat (x81.getD x83.toNat (0 : Int))) d30) (lookA d60 h1 (x0.getD (Int.toNat (x81.getD x83.toNat (0 : Int))) d30).snd.snd.fst.snd.fst)).fst)))) else (bif !(B.F29.val (x0.getD (Int.toNat (x81.getD x83.toNat (0 : Int))) d30) (lookA d60 h1 (x0.getD (Int.toNat (x81.getD x83.toNat (0 : Int))) d30).snd.snd.fst.snd.fst)).snd then R (s0 (false)) else N (st20 (x0, bif decide ((x0.getD (Int.toNat (x81.getD x83.toNat (0 : Int))) d30).snd.snd.snd.snd.snd.fst > x10) then (x0.getD (Int.toNat (x81.getD x83.toNat (0 : Int))) d30).snd.snd.snd.snd.snd.fst else x10, x81, x82, IntKind.i64.wrap (x83 + (1 : Int)), h0, setA h1 (x0.getD (Int.toNat (x81.getD x83.toNat (0 : Int))) d30).snd.snd.fst.snd.fst (B.F29.val (x0.getD (Int.toNat (x81.getD x83.toNat (0 : Int))) d30) (lookA d60 h1 (x0.getD (Int.toNat (x81.getD x83.toNat (0 : Int))) d30).snd.snd.fst.snd.fst)).fst)))))))) else X 4 (s3 (h0) (h1)))
theorem round20 (x0 : (List D30)) (x10 : Int) (x81 : (List Int)) (x82 : Int) (x83 : Int) (h0 : (List Int)) (h1 : (List (Int × D60))) (N : St → Prop) (X : Nat → St → Prop) (R : St → Prop) : exec C callF body20 ⟨0, [2], fun s' => cond (Nat.ble 2 s'.H.length) (N (scrub keep20 2 s')) False, X, R⟩ (st20 (x0, x10, x81, x82, x83, h0, h1)) = Round20 x0 x10 x81 x82 x83 h0 h1 N X R := by kernel_rfl
noncomputable def Main (calls : (List D30)) (order : (List Int)) (k : AV → Prop) : Prop :=
  ((C.F31.Pre calls) ∧ (bif !C.F31.val calls then k (.v .bool (false)) else (((↑calls.length : Int) = (↑calls.length : Int)) ∧ (((0 : Int) ≤ (↑calls.length : Int)) ∧ (((↑calls.length : Int) ≤ (↑(8796093022208 : Nat) : Int)) ∧ (st5 (calls, order, (↑calls.length : Int).toNat, order, (↑order.length : Int), (0 : Int), List.replicate (↑calls.length : Int).toNat (0 : Int)) = st5 (calls, order, (↑calls.length : Int).toNat, order, (↑order.length : Int), (0 : Int), List.replicate (↑calls.length : Int).toNat (0 : Int)) ∧ (((0 : Int) ≤ (0 : Int)) ∧ (((0 : Int) ≤ (↑order.length : Int)) ∧ ((order.length ≤ LB) ∧ ((calls.length ≤ LB) ∧ ((order = order) ∧ (((↑order.length : Int) = (↑order.length : Int)) ∧ (((↑calls.length : Int).toNat = calls.length) ∧ (((List.replicate (↑calls.length : Int).toNat (0 : Int)).length = calls.length) ∧ ((plc calls (List.take (Int.toNat (0 : Int)) order) (List.replicate (↑calls.length : Int).toNat (0 : Int))) ∧ (bif lst calls (List.take (Int.toNat (0 : Int)) order) order then (∀ q3 : List Int, ((q3.length = calls.length) → ((plc calls order q3) → (st12 (calls, order, (↑calls.length : Int).toNat, calls, (↑calls.length : Int), (0 : Int), q3) = st12 (calls, order, (↑calls.length : Int).toNat, calls, (↑calls.length : Int), (0 : Int), q3) ∧ (((0 : Int) ≤ (0 : Int)) ∧ (((0 : Int) ≤ (↑calls.length : Int)) ∧ ((calls.length ≤ LB) ∧ ((calls = calls) ∧ (((↑calls.length : Int) = (↑calls.length : Int)) ∧ (((↑calls.length : Int).toNat = calls.length) ∧ ((q3.length = calls.length) ∧ (bif (List.range' (Int.toNat (0 : Int)) (calls.length - Int.toNat (0 : Int))).all (inPl calls q3) then (st20 (calls, (-1 : Int), order, (↑order.length : Int), (0 : Int), q3, []) = st20 (calls, (-1 : Int), order, (↑order.length : Int), (0 : Int), q3, []) ∧ (((0 : Int) ≤ (0 : Int)) ∧ (((0 : Int) ≤ (↑order.length : Int)) ∧ ((order.length ≤ LB) ∧ (((↑order.length : Int) = (↑order.length : Int)) ∧ ((∀ (y : Int), y ∈ order → (0 : Int) ≤ y ∧ y < (↑calls.length : Int)) ∧ (bif rn calls order (-1 : Int) [] then (∀ q6 : List (Int × D60), k (.v .bool (true))) else k (.v .bool (false))))))))) else k (.v .bool (false)))))))))))))) else k (.v .bool (false))))))))))))))))))
theorem main (calls : (List D30)) (order : (List Int)) (k : AV → Prop) : (runFn C callF Try.f18 [.v (.sl (.pair (.int .u8) (.pair (.int .u64) (.pair (.pair (.int .u8) (.pair (.int .u64) (.pair (.int .u64) (.pair (.sl (.int .u8)) (.pair (.sl (.int .u8)) (.pair .bool (.pair (.int .u8) .unit))))))) (.pair (.int .u8) (.pair (.sl (.int .u8)) (.pair (.int .i64) (.pair (.int .i64) .unit)))))))) calls, .v (.sl (.int .i64)) order] [] (fun r H => coRes H [.bool] r k)) = Main calls order k := by kernel_rfl
theorem rep_get (n i : Nat) : (List.replicate n (0 : Int)).getD i 0 = 0 := by
  rw [List.getD_eq_getElem?_getD, List.getElem?_replicate]; split <;> rfl
theorem getD_set (l : List Int) (i j : Nat) (x : Int) (h : i < l.length) : (l.set i x).getD j 0 = if i = j then x else l.getD j 0 := by
  rw [List.getD_eq_getElem?_getD, List.getElem?_set, List.getD_eq_getElem?_getD]
  by_cases e : i = j
  · subst e; simp [h]
  · simp [e]
theorem plc_step {cs : List D30} {o h : List Int} {j : Nat} {p : Int} (hj : j < o.length) (hl : h.length = cs.length) (h0 : 0 ≤ o.getD j 0) (h1 : o.getD j 0 < cs.length) (hp : 0 < p) (hi : plc cs (o.take j) h) : plc cs (o.take (j + 1)) (h.set (o.getD j 0).toNat p) := by
  intro y hy
  rw [take_snoc hj 0, List.any_append, getD_set _ _ _ _ (by omega)]
  obtain ⟨g1, g2⟩ := hi y hy
  by_cases e : (o.getD j 0).toNat = y
  · rw [if_pos e]
    have e2 : ([o.getD j 0].any (· == (y : Int))) = true := by rw [List.any_cons, List.any_nil, Bool.or_false, beq_iff_eq]; omega
    rw [e2, Bool.or_true]
    exact ⟨fun _ => hp, fun h => by cases h⟩
  · rw [if_neg e]
    have e2 : ([o.getD j 0].any (· == (y : Int))) = false := by rw [List.any_cons, List.any_nil, Bool.or_false, beq_eq_false_iff_ne]; omega
    rw [e2, Bool.or_false]
    exact ⟨g1, g2⟩
theorem loop5 (v : V5) (X : Nat → St → Prop) (R : St → Prop) : Q5 v X R → ∃ m, loopN C callF keep5 1 body5 ⟨0, [], fun _ => False, X, R⟩ m (st5 v) := by
  refine loop_ind (fun v => Q5 v X R) (fun v => v.2.1.length - v.2.2.2.2.2.1.toNat) ?_ v
  rintro ⟨cs, o, n5, o', n, i, h⟩ ⟨h0, h1, h2, h2c, rfl, rfl, rfl, hl, hi, h4⟩ N hN
  rw [round5]
  obtain ⟨j, rfl⟩ : ∃ j : Nat, i = j := ⟨i.toNat, by omega⟩
  dsimp only at hN
  rw [Int.toNat_natCast] at h4 hi
  have h2' : o.length ≤ 1073741824 := h2
  refine bif_d (fun hj => ⟨by omega, hj, ?_⟩) (fun hj => ?_)
  · have hn : j < o.length := by omega
    rw [lst_step hn] at h4
    rw [Int.toNat_natCast]
    have bad : (okAt cs (o.getD j 0) && !((o.take j).any (· == o.getD j 0))) = false → R (s0 false) := fun e => by
      rw [e, Bool.false_and, cond_false] at h4; exact h4
    refine bif_d (fun ha => bad ?_) (fun ha => bif_d (fun hb => bad ?_) (fun hb => ⟨by omega, by omega, by omega, ?_⟩))
    · rw [okAt, decide_eq_false (by omega)]; rfl
    · rw [okAt, decide_eq_false (p := o.getD j 0 < cs.length) (by omega), Bool.and_false]; rfl
    have hy := hi (o.getD j 0).toNat (by omega)
    rw [Int.toNat_of_nonneg (by omega)] at hy
    refine bif_d (fun hc => bad ?_) (fun hc => ⟨by omega, by omega, bif_i (fun hd => bad ?_) (fun hd => ⟨by omega, by omega, by omega, ?_⟩)⟩)
    · cases ea : (o.take j).any (· == o.getD j 0) with
      | true => simp
      | false => have := hy.2 ea; omega
    · have hd' : ((cs.getD (o.getD j 0).toNat d30).2.2.1.1 == 5) = true := hd
      rw [okAt, hd']; simp
    · have hd' : ((cs.getD (o.getD j 0).toNat d30).2.2.1.1 == 5) = false := hd
      have ea : (o.take j).any (· == o.getD j 0) = false := by
        cases ea : (o.take j).any (· == o.getD j 0) with
        | false => rfl
        | true => exact absurd (hy.1 ea) hc
      have e : (okAt cs (o.getD j 0) && !((o.take j).any (· == o.getD j 0))) = true := by
        rw [ea, okAt, hd', decide_eq_true (p := 0 ≤ o.getD j 0) (by omega), decide_eq_true (by omega)]; rfl
      rw [e, Bool.true_and] at h4
      rw [w64n (by omega)]
      refine hN _ ⟨by omega, by omega, h2, h2c, rfl, rfl, rfl, by rw [List.length_set]; exact hl, ?_, by rw [Int.toNat_natCast]; exact h4⟩ (by dsimp only; omega)
      rw [Int.toNat_natCast]
      exact plc_step hn hl (by omega) (by omega) (by omega) hi
  · have e : j = o.length := by omega
    subst e
    rw [List.drop_length] at h4
    rw [List.take_length] at hi
    exact h4 h hl hi
theorem loop12 (v : V12) (X : Nat → St → Prop) (R : St → Prop) : Q12 v X R → ∃ m, loopN C callF keep12 1 body12 ⟨0, [], fun _ => False, X, R⟩ m (st12 v) := by
  refine loop_ind (fun v => Q12 v X R) (fun v => v.1.length - v.2.2.2.2.2.1.toNat) ?_ v
  rintro ⟨cs, o, n5, cs', n, i, h⟩ ⟨h0, h1, h2, rfl, rfl, rfl, hl, h4⟩ N hN
  rw [round12]
  obtain ⟨j, rfl⟩ : ∃ j : Nat, i = j := ⟨i.toNat, by omega⟩
  dsimp only at hN
  rw [Int.toNat_natCast] at h4
  have h2' : cs.length ≤ 1073741824 := h2
  refine bif_d (fun hj => ⟨by omega, hj, ?_⟩) (fun hj => ?_)
  · have hn : j < cs.length := by omega
    rw [F36.range_cons hn, List.all_cons] at h4
    rw [Int.toNat_natCast, w64n (by omega)]
    have good : inPl cs h j = true → N (st12 (cs, o, cs.length, cs, (cs.length : Int), ((j + 1 : Nat) : Int), h)) := fun e => by
      rw [e, Bool.true_and] at h4
      exact hN _ ⟨by omega, by omega, h2, rfl, rfl, rfl, hl, by rw [Int.toNat_natCast]; exact h4⟩ (by dsimp only; omega)
    refine bif_i (fun ha => bif_i (fun hb => ⟨by omega, by omega, by omega, bif_i (fun hc => ?_) (fun hc => good ?_)⟩) (fun hb => good ?_)) (fun ha => good ?_)
    · have e : inPl cs h j = false := by
        unfold inPl
        rw [ha, hb, hc]; rfl
      rw [e, Bool.false_and, cond_false] at h4
      exact h4
    · unfold inPl
      rw [hc]; simp
    · unfold inPl
      rw [hb]; simp
    · unfold inPl
      rw [ha]; rfl
  · rw [show cs.length - j = 0 by omega] at h4
    exact h4
theorem loop20 (v : V20) (X : Nat → St → Prop) (R : St → Prop) : Q20 v X R → ∃ m, loopN C callF keep20 2 body20 ⟨0, [], fun _ => False, X, R⟩ m (st20 v) := by
  refine loop_ind (fun v => Q20 v X R) (fun v => v.2.2.1.length - v.2.2.2.2.1.toNat) ?_ v
  rintro ⟨cs, last, o, n, i, h, es⟩ ⟨h0, h1, h2, rfl, hm, h4⟩ N hN
  rw [round20]
  obtain ⟨j, rfl⟩ : ∃ j : Nat, i = j := ⟨i.toNat, by omega⟩
  dsimp only at hN
  rw [Int.toNat_natCast] at h4
  have h2' : o.length ≤ 1073741824 := h2
  refine bif_d (fun hj => ⟨by omega, hj, ?_⟩) (fun hj => ?_)
  · have hn : j < o.length := by omega
    rw [drop_cons hn 0, rn] at h4
    rw [Int.toNat_natCast, w64n (by omega)]
    obtain ⟨g1, g2⟩ := hm _ (C.F9.getD_mem hn 0)
    have next : ∀ last' es', (bif rn cs (o.drop (j + 1)) last' es' then (∀ e : List (Int × D60), X 4 (s3 h e)) else R (s0 false)) → N (st20 (cs, last', o, (o.length : Int), ((j + 1 : Nat) : Int), h, es')) := fun last' es' e =>
      hN _ ⟨by omega, by omega, h2, rfl, hm, by rw [Int.toNat_natCast]; exact e⟩ (by dsimp only; omega)
    refine ⟨g1, g2, bif_i (fun ha => bif_i (fun hb => ?_) (fun hb => ?_)) (fun ha => ?_)⟩
    · rw [ha, hb, Bool.true_and, cond_true, cond_false] at h4
      exact h4
    · rw [ha, hb, Bool.true_and, cond_false] at h4
      refine bif_i (fun hc => ?_) (fun hc => ?_)
      · rw [hc, cond_true, cond_false] at h4; exact h4
      · rw [hc, cond_false] at h4; exact next _ _ h4
    · rw [ha, Bool.false_and, cond_false] at h4
      refine bif_i (fun hc => ?_) (fun hc => ?_)
      · rw [hc, cond_true, cond_false] at h4; exact h4
      · rw [hc, cond_false] at h4; exact next _ _ h4
  · rw [List.drop_eq_nil_of_le (by omega), rn, cond_true] at h4
    exact h4 es
def val (cs : List D30) (o : List Int) : Bool := C.F31.val cs && (lst cs [] o && ((List.range' 0 cs.length).all (D.F36.inOr cs o) && rn cs o (-1) []))
theorem inPl_eq {cs : List D30} {o h : List Int} (hi : plc cs o h) : (List.range' 0 cs.length).all (inPl cs h) = (List.range' 0 cs.length).all (D.F36.inOr cs o) := by
  rw [Bool.eq_iff_iff, List.all_eq_true, List.all_eq_true]
  have key : ∀ i, i ∈ List.range' 0 cs.length → inPl cs h i = D.F36.inOr cs o i := fun i hi' => by
    rw [List.mem_range'_1] at hi'
    have := hi i (by omega)
    show (!(A.F45.val (cs.getD i d30) && !((cs.getD i d30).2.2.1.1 == 5)) || !(h.getD i 0 == 0)) = (!(A.F45.val (cs.getD i d30) && !((cs.getD i d30).2.2.1.1 == 5)) || o.any (· == (i : Int)))
    cases e : o.any (· == (i : Int)) with
    | true => rw [show (h.getD i 0 == 0) = false by have := this.1 e; rw [beq_eq_false_iff_ne]; omega]; rfl
    | false => rw [show (h.getD i 0 == 0) = true by rw [beq_iff_eq]; exact this.2 e]; rfl
  exact ⟨fun h' i hi' => by rw [← key i hi']; exact h' i hi', fun h' i hi' => by rw [key i hi']; exact h' i hi'⟩
theorem spec (cs : List D30) (o : List Int) (k : AV → Prop) (h : AllP [cs.length ≤ LB, o.length ≤ LB]) (hk : k (.v .bool (val cs o))) : Main cs o k := by
  obtain ⟨hc, ho, _⟩ := h
  have hc' : cs.length ≤ 1073741824 := hc
  unfold val at hk
  refine ⟨hc, bif_i (fun e => ?_) (fun e => ?_)⟩
  · rw [show C.F31.val cs = false by simpa using e] at hk; exact hk
  rw [show C.F31.val cs = true by simpa using e, Bool.true_and] at hk
  rw [Int.toNat_natCast]
  refine ⟨rfl, by omega, by omega, rfl, by omega, by omega, ho, hc, rfl, rfl, rfl, by simp, fun y hy => ⟨fun h => by simp at h, fun _ => rep_get _ _⟩, ?_⟩
  refine bif_i (fun e1 => ?_) (fun e1 => ?_)
  · rw [show lst cs [] o = true from e1, Bool.true_and] at hk
    intro h' hl hi
    refine ⟨rfl, by omega, by omega, hc, rfl, rfl, rfl, hl, ?_⟩
    show bif (List.range' 0 cs.length).all (inPl cs h') then _ else _
    rw [inPl_eq hi]
    cases e2 : (List.range' 0 cs.length).all (D.F36.inOr cs o) with
    | false => rw [e2] at hk; exact hk
    | true =>
      rw [e2, Bool.true_and] at hk
      refine ⟨rfl, by omega, by omega, ho, rfl, fun y hy => ?_, ?_⟩
      · have := lst_in o [] e1 y hy
        unfold okAt at this
        simp at this
        omega
      · cases e3 : rn cs o (-1) [] with
        | true => rw [e3] at hk; exact fun _ => hk
        | false => rw [e3] at hk; exact hk
  · rw [show lst cs [] o = false from e1] at hk; exact hk
noncomputable def ts : List Ty := [(.sl T30), (.sl (.int .i64))]
noncomputable def G : List AV → PV := pg2 (.sl T30) (.sl (.int .i64)) (fun calls order => [calls.length ≤ LB, order.length ≤ LB]) (fun calls order => .v .bool (val calls order))
theorem loopsOK : LoopsOK C callF (bodyOf Try.f18) := loopsOK_seek (tbl := loops) (fun _ => rfl) (by kernel_rfl) (List.forall_mem_cons.2 ⟨mkL_ok loop5, List.forall_mem_cons.2 ⟨mkL_ok loop12, List.forall_mem_cons.2 ⟨mkL_ok loop20, fun _ h => nomatch h⟩⟩⟩)
theorem pursOK : ∀ g ts F, C.pur g = some (ts, F) → SoundP Try.prog g F := purOf_ok (l := purs) (List.forall_mem_cons.2 ⟨Go.Proofs.Ytdjdbjcapenjeaa.A.F28.ok, List.forall_mem_cons.2 ⟨Go.Proofs.Ytdjdbjcapenjeaa.B.F29.ok, List.forall_mem_cons.2 ⟨Go.Proofs.Ytdjdbjcapenjeaa.C.F31.ok, List.forall_mem_cons.2 ⟨Go.Proofs.Ytdjdbjcapenjeaa.A.F41.ok, fun _ h => nomatch h⟩⟩⟩⟩)
theorem cfsOK : ∀ g, SoundF Try.prog g (callF g) := fun g => soundF_none g
theorem ok : SoundP Try.prog 18 G := by
  unfold G
  refine soundP_pg2 (soundF_run (C := C) (callF := callF) (tabOK C rfl rfl rfl) cfsOK pursOK Try.func18 (by kernel_rfl) loopsOK) [.bool] fun calls order h => ?_
  rw [main]
  exact spec calls order _ h rfl
end F18

end Go.Proofs.Ytdjdbjcapenjeaa.E
