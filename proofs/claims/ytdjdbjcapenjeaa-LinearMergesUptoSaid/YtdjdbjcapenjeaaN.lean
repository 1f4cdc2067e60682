/- Merge: the lines -/
import Derived.Test.YtdjdbjcapenjeaaDxTab
import Derived.Test.YtdjdbjcapenjeaaDx3
import Derived.Test.YtdjdbjcapenjeaaDxTy
import Derived.Test.YtdjdbjcapenjeaaM
import Derived.Test.YtdjdbjcapenjeaaE
import Derived.Test.YtdjdbjcapenjeaaA
set_option linter.unusedVariables false
set_option maxRecDepth 100000
open Go Go.Proofs Go.Proofs.Ytdjdbjcapenjeaa.Dx Go.Proofs.Ytdjdbjcapenjeaa.Dx.TYtdjdbjcapenjeaa
namespace Go.Proofs.Ytdjdbjcapenjeaa.N
open D M
/-- A call's key. -/
def ky (cs : List D30) (y : Int) : Int := (cs.getD y.toNat d30).2.2.1.2.1
def lnH : List Int → List Int → List Int
  | [], h => h
  | y :: r, h => lnH r (h.set y.toNat (IntKind.i64.wrap (h.getD y.toNat 0 + 1)))
def lnK (cs : List D30) (n : Int) : List Int → List (Int × Int) → List (Int × Int)
  | [], e => e
  | y :: r, e => lnK cs n r (setA e (ky cs y) n)
/-- May this number stand in the order n, whose first call's key is k0? -/
def elOK (cs : List D30) (n k0 : Int) (y : Int) (h : List Int) (e : List (Int × Int)) : Bool := (okAt cs y && !decide (h.getD y.toNat 0 > 0)) && ((bif hasA e (ky cs y) then !(lookA 0 e (ky cs y) != n) else true) && !(ky cs y != k0))
def lnOK (cs : List D30) (n k0 : Int) : List Int → List Int → List (Int × Int) → Bool
  | [], _, _ => true
  | y :: r, h, e => elOK cs n k0 y h e && lnOK cs n k0 r (h.set y.toNat (IntKind.i64.wrap (h.getD y.toNat 0 + 1))) (setA e (ky cs y) n)
def lsOK (cs : List D30) : List (List Int) → Int → List Int → List (Int × Int) → Bool
  | [], _, _, _ => true
  | o :: r, i, h, e => lnOK cs i (ky cs (o.getD 0 0)) o h e && lsOK cs r (i + 1) (lnH o h) (lnK cs i o e)
def lsH : List (List Int) → List Int → List Int
  | [], h => h
  | o :: r, h => lsH r (lnH o h)
def ln0 (o : List Int) : D72 := (o, 0, ())
theorem lnH_len : ∀ (r h : List Int), (lnH r h).length = h.length
  | [], h => rfl
  | y :: r, h => by rw [lnH, lnH_len r, List.length_set]
theorem lsH_len : ∀ (r : List (List Int)) (h : List Int), (lsH r h).length = h.length
  | [], h => rfl
  | o :: r, h => by rw [lsH, lsH_len r, lnH_len]
namespace F32
abbrev V5 := (List D30) × Nat × Nat × (List (List Int)) × Int × Int × (List Int) × (List (Int × Int)) × (List D72)
noncomputable def st5 (v : V5) : St := ⟨[.v (.sl T30) (v.1), .dead, .dead, .dead, .dead, .dead, .v .ref (.sl 0 0 (v.2.1)), .v .ref (.mp 1), .v .ref (.sl 2 0 (v.2.2.1)), .dead, .dead, .dead, .dead, .dead, .dead, .dead, .dead, .dead, .dead, .dead, .dead, .v (.sl (.sl (.int .i64))) (v.2.2.2.1), .v (.int .i64) (v.2.2.2.2.1), .v (.int .i64) (v.2.2.2.2.2.1), .dead, .dead, .dead, .dead, .dead, .dead, .dead, .dead, .dead, .dead, .dead, .dead, .dead, .dead, .dead, .dead, .dead, .dead, .dead, .dead, .dead, .dead, .dead, .dead, .dead, .dead, .dead, .dead, .dead, .dead, .dead, .dead, .dead, .dead, .dead, .dead, .dead, .dead, .dead, .dead, .dead, .dead, .dead, .dead, .dead, .dead, .dead, .dead, .dead, .dead, .dead, .dead, .dead, .dead, .dead, .dead, .dead, .dead, .dead, .dead, .dead, .dead, .dead, .dead, .dead, .dead, .dead, .dead, .dead, .dead, .dead, .dead, .dead, .dead, .dead, .dead, .dead, .dead, .dead, .dead, .dead, .dead, .dead, .dead, .dead, .dead, .dead, .dead, .dead, .dead, .dead, .dead, .dead, .dead, .dead, .dead, .dead, .dead, .dead, .dead, .dead, .dead, .dead, .dead, .dead, .dead, .dead, .dead, .dead, .dead], [.row (.int .i64) (v.2.2.2.2.2.2.1) 3, .map (.int .u64) (.int .i64) (v.2.2.2.2.2.2.2.1), .row T72 (v.2.2.2.2.2.2.2.2) 72]⟩
noncomputable def dec5 (s : St) : Option V5 := match gV (.sl T30) (s.T.getD 0 .dead), gV .ref (s.T.getD 6 .dead), gV .ref (s.T.getD 8 .dead), gV (.sl (.sl (.int .i64))) (s.T.getD 21 .dead), gV (.int .i64) (s.T.getD 22 .dead), gV (.int .i64) (s.T.getD 23 .dead), gRow (.int .i64) s.H[0]?, gMap (.int .i64) s.H[1]?, gRow T72 s.H[2]? with | some a0, some a6, some a8, some a21, some a22, some a23, some b0, some b1, some b2 => some (a0, rN (a6), rN (a8), a21, a22, a23, b0, b1, b2) | _, _, _, _, _, _, _, _, _ => none
noncomputable def keep5 : List Nat := [0, 6, 7, 8, 21, 22, 23]
noncomputable def body5 : Code := bodyAt (loopsOf (bodyOf Try.f32)) 5
abbrev V8 := (List D30) × Nat × Nat × Int × (List Int) × (List (List Int)) × Int × Int × (List Int) × Int × Int × (List Int) × (List (Int × Int)) × (List D72)
noncomputable def st8 (v : V8) : St := ⟨[.v (.sl T30) (v.1), .dead, .dead, .dead, .dead, .dead, .v .ref (.sl 0 0 (v.2.1)), .v .ref (.mp 1), .v .ref (.sl 2 0 (v.2.2.1)), .v (.int .i64) (v.2.2.2.1), .v (.sl (.int .i64)) (v.2.2.2.2.1), .dead, .dead, .dead, .dead, .dead, .dead, .dead, .dead, .dead, .dead, .v (.sl (.sl (.int .i64))) (v.2.2.2.2.2.1), .v (.int .i64) (v.2.2.2.2.2.2.1), .v (.int .i64) (v.2.2.2.2.2.2.2.1), .dead, .dead, .dead, .dead, .v (.sl (.int .i64)) (v.2.2.2.2.2.2.2.2.1), .v (.int .i64) (v.2.2.2.2.2.2.2.2.2.1), .v (.int .i64) (v.2.2.2.2.2.2.2.2.2.2.1), .dead, .dead, .dead, .dead, .dead, .dead, .dead, .dead, .dead, .dead, .dead, .dead, .dead, .dead, .dead, .dead, .dead, .dead, .dead, .dead, .dead, .dead, .dead, .dead, .dead, .dead, .dead, .dead, .dead, .dead, .dead, .dead, .dead, .dead, .dead, .dead, .dead, .dead, .dead, .dead, .dead, .dead, .dead, .dead, .dead, .dead, .dead, .dead, .dead, .dead, .dead, .dead, .dead, .dead, .dead, .dead, .dead, .dead, .dead, .dead, .dead, .dead, .dead, .dead, .dead, .dead, .dead, .dead, .dead, .dead, .dead, .dead, .dead, .dead, .dead, .dead, .dead, .dead, .dead, .dead, .dead, .dead, .dead, .dead, .dead, .dead, .dead, .dead, .dead, .dead, .dead, .dead, .dead, .dead, .dead, .dead, .dead, .dead, .dead, .dead, .dead, .dead, .dead], [.row (.int .i64) (v.2.2.2.2.2.2.2.2.2.2.2.1) 3, .map (.int .u64) (.int .i64) (v.2.2.2.2.2.2.2.2.2.2.2.2.1), .row T72 (v.2.2.2.2.2.2.2.2.2.2.2.2.2) 72]⟩
noncomputable def dec8 (s : St) : Option V8 := match gV (.sl T30) (s.T.getD 0 .dead), gV .ref (s.T.getD 6 .dead), gV .ref (s.T.getD 8 .dead), gV (.int .i64) (s.T.getD 9 .dead), gV (.sl (.int .i64)) (s.T.getD 10 .dead), gV (.sl (.sl (.int .i64))) (s.T.getD 21 .dead), gV (.int .i64) (s.T.getD 22 .dead), gV (.int .i64) (s.T.getD 23 .dead), gV (.sl (.int .i64)) (s.T.getD 28 .dead), gV (.int .i64) (s.T.getD 29 .dead), gV (.int .i64) (s.T.getD 30 .dead), gRow (.int .i64) s.H[0]?, gMap (.int .i64) s.H[1]?, gRow T72 s.H[2]? with | some a0, some a6, some a8, some a9, some a10, some a21, some a22, some a23, some a28, some a29, some a30, some b0, some b1, some b2 => some (a0, rN (a6), rN (a8), a9, a10, a21, a22, a23, a28, a29, a30, b0, b1, b2) | _, _, _, _, _, _, _, _, _, _, _, _, _, _ => none
noncomputable def keep8 : List Nat := [0, 6, 7, 8, 9, 10, 21, 22, 23, 28, 29, 30]
noncomputable def body8 : Code := bodyAt (loopsOf (bodyOf Try.f32)) 8
abbrev V21 := Nat × Nat × (List D30) × Int × Int × (List Int) × (List (Int × Int)) × (List D72)
noncomputable def st21 (v : V21) : St := ⟨[.dead, .dead, .dead, .dead, .dead, .dead, .v .ref (.sl 0 0 (v.1)), .dead, .v .ref (.sl 2 0 (v.2.1)), .dead, .dead, .dead, .dead, .dead, .dead, .dead, .dead, .dead, .dead, .dead, .dead, .dead, .dead, .dead, .dead, .dead, .dead, .dead, .dead, .dead, .dead, .dead, .dead, .dead, .dead, .dead, .dead, .dead, .dead, .dead, .dead, .dead, .dead, .dead, .dead, .dead, .dead, .dead, .dead, .dead, .dead, .dead, .dead, .dead, .dead, .dead, .dead, .dead, .dead, .dead, .dead, .dead, .dead, .dead, .dead, .dead, .dead, .dead, .dead, .dead, .dead, .dead, .dead, .dead, .dead, .dead, .dead, .dead, .dead, .dead, .dead, .dead, .dead, .dead, .dead, .dead, .dead, .dead, .dead, .dead, .dead, .dead, .dead, .dead, .dead, .dead, .dead, .dead, .dead, .dead, .dead, .dead, .dead, .dead, .dead, .dead, .dead, .dead, .dead, .dead, .dead, .v (.sl T30) (v.2.2.1), .v (.int .i64) (v.2.2.2.1), .v (.int .i64) (v.2.2.2.2.1), .dead, .dead, .dead, .dead, .dead, .dead, .dead, .dead, .dead, .dead, .dead, .dead, .dead, .dead, .dead, .dead, .dead, .dead, .dead, .dead], [.row (.int .i64) (v.2.2.2.2.2.1) 3, .map (.int .u64) (.int .i64) (v.2.2.2.2.2.2.1), .row T72 (v.2.2.2.2.2.2.2) 72]⟩
noncomputable def dec21 (s : St) : Option V21 := match gV .ref (s.T.getD 6 .dead), gV .ref (s.T.getD 8 .dead), gV (.sl T30) (s.T.getD 111 .dead), gV (.int .i64) (s.T.getD 112 .dead), gV (.int .i64) (s.T.getD 113 .dead), gRow (.int .i64) s.H[0]?, gMap (.int .i64) s.H[1]?, gRow T72 s.H[2]? with | some a6, some a8, some a111, some a112, some a113, some b0, some b1, some b2 => some (rN (a6), rN (a8), a111, a112, a113, b0, b1, b2) | _, _, _, _, _, _, _, _ => none
noncomputable def keep21 : List Nat := [6, 8, 111, 112, 113]
noncomputable def body21 : Code := bodyAt (loopsOf (bodyOf Try.f32)) 21
noncomputable def s0 (x0 : (List D30)) (n6 : Nat) (n8 : Nat) (h0 : (List Int)) (h1 : (List (Int × Int))) (h2 : (List D72)) : St := ⟨[.v (.sl T30) x0, .dead, .dead, .dead, .dead, .dead, .v .ref (.sl 0 0 n6), .dead, .v .ref (.sl 2 0 n8), .dead, .dead, .dead, .dead, .dead, .dead, .dead, .dead, .dead, .dead, .dead, .dead, .dead, .dead, .dead, .dead, .dead, .dead, .dead, .dead, .dead, .dead, .dead, .dead, .dead, .dead, .dead, .dead, .dead, .dead, .dead, .dead, .dead, .dead, .dead, .dead, .dead, .dead, .dead, .dead, .dead, .dead, .dead, .dead, .dead, .dead, .dead, .dead, .dead, .dead, .dead, .dead, .dead, .dead, .dead, .dead, .dead, .dead, .dead, .dead, .dead, .dead, .dead, .dead, .dead, .dead, .dead, .dead, .dead, .dead, .dead, .dead, .dead, .dead, .dead, .dead, .dead, .dead, .dead, .dead, .dead, .dead, .dead, .dead, .dead, .dead, .dead, .dead, .dead, .dead, .dead, .dead, .dead, .dead, .dead, .dead, .dead, .dead, .dead, .dead, .dead, .dead, .dead, .dead, .dead, .dead, .dead, .dead, .dead, .dead, .dead, .dead, .dead, .dead, .dead, .dead, .dead, .dead, .dead, .dead, .dead, .dead, .dead, .dead, .dead], [.row (.int .i64) h0 3, .map (.int .u64) (.int .i64) h1, .row T72 h2 72]⟩
noncomputable def s1 (x5 : Bool) (h0 : (List Int)) (h1 : (List (Int × Int))) (h2 : (List D72)) : St := ⟨[.dead, .dead, .dead, .dead, .v .nl (), .v .bool x5, .dead, .dead, .dead, .dead, .dead, .dead, .dead, .dead, .dead, .dead, .dead, .dead, .dead, .dead, .dead, .dead, .dead, .dead, .dead, .dead, .dead, .dead, .dead, .dead, .dead, .dead, .dead, .dead, .dead, .dead, .dead, .dead, .dead, .dead, .dead, .dead, .dead, .dead, .dead, .dead, .dead, .dead, .dead, .dead, .dead, .dead, .dead, .dead, .dead, .dead, .dead, .dead, .dead, .dead, .dead, .dead, .dead, .dead, .dead, .dead, .dead, .dead, .dead, .dead, .dead, .dead, .dead, .dead, .dead, .dead, .dead, .dead, .dead, .dead, .dead, .dead, .dead, .dead, .dead, .dead, .dead, .dead, .dead, .dead, .dead, .dead, .dead, .dead, .dead, .dead, .dead, .dead, .dead, .dead, .dead, .dead, .dead, .dead, .dead, .dead, .dead, .dead, .dead, .dead, .dead, .dead, .dead, .dead, .dead, .dead, .dead, .dead, .dead, .dead, .dead, .dead, .dead, .dead, .dead, .dead, .dead, .dead, .dead, .dead, .dead, .dead, .dead, .dead], [.row (.int .i64) h0 3, .map (.int .u64) (.int .i64) h1, .row T72 h2 72]⟩
noncomputable def s2 (x0 : (List D30)) (n6 : Nat) (n8 : Nat) (x10 : (List Int)) (x21 : (List (List Int))) (x22 : Int) (x23 : Int) (h0 : (List Int)) (h1 : (List (Int × Int))) (h2 : (List D72)) : St := ⟨[.v (.sl T30) x0, .dead, .dead, .dead, .dead, .dead, .v .ref (.sl 0 0 n6), .v .ref (.mp 1), .v .ref (.sl 2 0 n8), .dead, .v (.sl (.int .i64)) x10, .dead, .dead, .dead, .dead, .dead, .dead, .dead, .dead, .dead, .dead, .v (.sl (.sl (.int .i64))) x21, .v (.int .i64) x22, .v (.int .i64) x23, .dead, .dead, .dead, .dead, .dead, .dead, .dead, .dead, .dead, .dead, .dead, .dead, .dead, .dead, .dead, .dead, .dead, .dead, .dead, .dead, .dead, .dead, .dead, .dead, .dead, .dead, .dead, .dead, .dead, .dead, .dead, .dead, .dead, .dead, .dead, .dead, .dead, .dead, .dead, .dead, .dead, .dead, .dead, .dead, .dead, .dead, .dead, .dead, .dead, .dead, .dead, .dead, .dead, .dead, .dead, .dead, .dead, .dead, .dead, .dead, .dead, .dead, .dead, .dead, .dead, .dead, .dead, .dead, .dead, .dead, .dead, .dead, .dead, .dead, .dead, .dead, .dead, .dead, .dead, .dead, .dead, .dead, .dead, .dead, .dead, .dead, .dead, .dead, .dead, .dead, .dead, .dead, .dead, .dead, .dead, .dead, .dead, .dead, .dead, .dead, .dead, .dead, .dead, .dead, .dead, .dead, .dead, .dead, .dead, .dead], [.row (.int .i64) h0 3, .map (.int .u64) (.int .i64) h1, .row T72 h2 72]⟩
noncomputable def s3 (n8 : Nat) (h0 : (List Int)) (h1 : (List (Int × Int))) (h2 : (List D72)) : St := ⟨[.dead, .dead, .dead, .dead, .dead, .dead, .dead, .dead, .v .ref (.sl 2 0 n8), .dead, .dead, .dead, .dead, .dead, .dead, .dead, .dead, .dead, .dead, .dead, .dead, .dead, .dead, .dead, .dead, .dead, .dead, .dead, .dead, .dead, .dead, .dead, .dead, .dead, .dead, .dead, .dead, .dead, .dead, .dead, .dead, .dead, .dead, .dead, .dead, .dead, .dead, .dead, .dead, .dead, .dead, .dead, .dead, .dead, .dead, .dead, .dead, .dead, .dead, .dead, .dead, .dead, .dead, .dead, .dead, .dead, .dead, .dead, .dead, .dead, .dead, .dead, .dead, .dead, .dead, .dead, .dead, .dead, .dead, .dead, .dead, .dead, .dead, .dead, .dead, .dead, .dead, .dead, .dead, .dead, .dead, .dead, .dead, .dead, .dead, .dead, .dead, .dead, .dead, .dead, .dead, .dead, .dead, .dead, .dead, .dead, .dead, .dead, .dead, .dead, .dead, .dead, .dead, .dead, .dead, .dead, .dead, .dead, .dead, .dead, .dead, .dead, .dead, .dead, .dead, .dead, .dead, .dead, .dead, .dead, .dead, .dead, .dead, .dead], [.row (.int .i64) h0 3, .map (.int .u64) (.int .i64) h1, .row T72 h2 72]⟩
def Q8 : V8 → (Nat → St → Prop) → (St → Prop) → Prop := fun (cs, n6, n8, n, o, orders, nn, i, o', k, j, h, e, out) X R => 0 ≤ j ∧ j ≤ o.length ∧ o.length ≤ LB ∧ o = o' ∧ k = o.length ∧ n6 = cs.length ∧ h.length = cs.length ∧ (0 < j → 0 ≤ o.getD 0 0 ∧ o.getD 0 0 < cs.length) ∧
  bif lnOK cs n (ky cs (o.getD 0 0)) (o.drop j.toNat) h e then X 2 (s2 cs n6 n8 o orders nn i (lnH (o.drop j.toNat) h) (lnK cs n (o.drop j.toNat) e) out) else ∀ (h : List Int) (e : List (Int × Int)) (l : List D72), R (s1 false h e l)
def Q5 : V5 → (Nat → St → Prop) → (St → Prop) → Prop := fun (cs, n6, n8, orders, nn, i, h, e, out) X R => 0 ≤ i ∧ i ≤ orders.length ∧ orders.length ≤ LB ∧ nn = orders.length ∧ (∀ o ∈ orders, o.length ≤ LB) ∧ n6 = cs.length ∧ h.length = cs.length ∧ (n8 : Int) = i ∧ out = (orders.take i.toNat).map ln0 ∧
  bif lsOK cs (orders.drop i.toNat) i h e then (∀ e' : List (Int × Int), X 0 (s0 cs n6 orders.length (lsH (orders.drop i.toNat) h) e' (orders.map ln0))) else ∀ (h : List Int) (e : List (Int × Int)) (l : List D72), R (s1 false h e l)
def Q21 : V21 → (Nat → St → Prop) → (St → Prop) → Prop := fun (n6, n8, cs, nn, i, h, e, out) X R => 0 ≤ i ∧ i ≤ cs.length ∧ cs.length ≤ LB ∧ nn = cs.length ∧ n6 = cs.length ∧ h.length = cs.length ∧
  bif (List.range' i.toNat (cs.length - i.toNat)).all (E.F18.inPl cs h) then X 4 (s3 n8 h e out) else ∀ (h : List Int) (e : List (Int × Int)) (l : List D72), R (s1 false h e l)
noncomputable def purs : List (Nat × (List Ty × (List AV → PV))) := [(28, (Go.Proofs.Ytdjdbjcapenjeaa.A.F28.ts, Go.Proofs.Ytdjdbjcapenjeaa.A.F28.G)), (41, (Go.Proofs.Ytdjdbjcapenjeaa.A.F41.ts, Go.Proofs.Ytdjdbjcapenjeaa.A.F41.G))]
noncomputable def callF (g : FuncId) : CF := fun _ _ _ => False
noncomputable def L5 : K → Nat → St → Prop := mkL dec5 st5 0 3 [] Q5
noncomputable def L8 : K → Nat → St → Prop := mkL dec8 st8 0 3 [3] Q8
noncomputable def L21 : K → Nat → St → Prop := mkL dec21 st21 0 3 [] Q21
noncomputable def loops : List (Nat × (List Nat × (K → Nat → St → Prop))) := [(5, (keep5, L5)), (8, (keep8, L8)), (21, (keep21, L21))]
noncomputable def C : Ctx := { ti := ti, meth := meth, can := can, pur := purOf purs, loops := fun i => seek loops i, gh := fun i => (seek [(4, [.own 8 (.pair (.sl (.int .i64)) (.pair (.int .i64) .unit)) 72])] i).getD [], xk := fun i => seek [(0, ([0, 6, 8], 0)), (2, ([0, 6, 7, 8, 10, 21, 22, 23], 0)), (4, ([8], 0))] i, rk := some ([4, 5], 3) }
noncomputable def Round5 (x0 : (List D30)) (n6 : Nat) (n8 : Nat) (x21 : (List (List Int))) (x22 : Int) (x23 : Int) (h0 : (List Int)) (h1 : (List (Int × Int))) (h2 : (List D72)) (N : St → Prop) (X : Nat → St → Prop) (R : St → Prop) : Prop :=
  (bif decide (x23 < x22) then (((0 : Int) ≤ x23) ∧ ((x23 < (↑x21.length : Int)) ∧ (st8 (x0, n6, n8, x23, x21.getD x23.toNat [], x21, x22, x23, x21.getD x23.toNat [], (↑(List.length (x21.getD x23.toNat [])) : Int), (0 : Int), h0, h1, h2) = st8 (x0, n6, n8, x23, x21.getD x23.toNat [], x21, x22, x23, x21.getD x23.toNat [], (↑(List.length (x21.getD x23.toNat [])) : Int), (0 : Int), h0, h1, h2) ∧ (((0 : Int) ≤ (0 : Int)) ∧ (((0 : Int) ≤ (↑(List.length (x21.getD x23.toNat [])) : Int)) ∧ ((List.length (x21.getD x23.toNat []) ≤ LB) ∧ ((x21.getD x23.toNat [] = x21.getD x23.toNat []) ∧ (((↑(List.length (x21.getD x23.toNat [])) : Int) = (↑(List.length (x21.getD x23.toNat [])) : Int)) ∧ ((n6 = x0.length) ∧ ((h0.length = x0.length) ∧ (((0 : Int) < (0 : Int) → (0 : Int) ≤ List.getD (x21.getD x23.toNat []) (0 : Nat) (0 : Int) ∧ List.getD (x21.getD x23.toNat []) (0 : Nat) (0 : Int) < (↑x0.length : Int)) ∧ (bif lnOK x0 x23 (ky x0 (List.getD (x21.getD x23.toNat []) (0 : Nat) (0 : Int))) (x21.getD x23.toNat []) h0 h1 then ((n8 ≤ h2.length) ∧ ((n8 + (1 : Nat) ≤ (2199023255552 : Nat)) ∧ (((0 : Nat) + (1 : Nat) ≤ (1 : Nat)) ∧ N (st5 (x0, n6, n8 + (1 : Nat), x21, x22, IntKind.i64.wrap (x23 + (1 : Int)), lnH (x21.getD x23.toNat []) h0, lnK x0 x23 (x21.getD x23.toNat []) h1, List.take n8 h2 ++ [(x21.getD x23.toNat [], (0 : Int), ())]))))) else (∀ q12 : List Int, (∀ q13 : List (Int × Int), (∀ q14 : List D72, R (s1 (false) (q12) (q13) (q14))))))))))))))))) else X 0 (s0 (x0) (n6) (n8) (h0) (h1) (h2)))
theorem round5 (x0 : (List D30)) (n6 : Nat) (n8 : Nat) (x21 : (List (List Int))) (x22 : Int) (x23 : Int) (h0 : (List Int)) (h1 : (List (Int × Int))) (h2 : (List D72)) (N : St → Prop) (X : Nat → St → Prop) (R : St → Prop) : exec C callF body5 ⟨0, [3], fun s' => cond (Nat.ble 3 s'.H.length) (N (scrub keep5 3 s')) False, X, R⟩ (st5 (x0, n6, n8, x21, x22, x23, h0, h1, h2)) = Round5 x0 n6 n8 x21 x22 x23 h0 h1 h2 N X R := by kernel_rfl
noncomputable def Round8 (x0 : (List D30)) (n6 : Nat) (n8 : Nat) (x9 : Int) (x10 : (List Int)) (x21 : (List (List Int))) (x22 : Int) (x23 : Int) (x28 : (List Int)) (x29 : Int) (x30 : Int) (h0 : (List Int)) (h1 : (List (Int × Int))) (h2 : (List D72)) (N : St → Prop) (X : Nat → St → Prop) (R : St → Prop) : Prop :=
  (bif decide (x30 < x29) then (((0 : Int) ≤ x30) ∧ ((x30 < (↑x28.length : Int)) ∧ (bif decide (x28.getD x30.toNat (0 : Int) < (0 : Int)) then R (s1 (false) (h0) (h1) (h2)) else (bif decide (x28.getD x30.toNat (0 : Int) ≥ (↑x0.length : Int)) then R (s1 (false) (h0) (h1) (h2)) else (((0 : Int) ≤ x28.getD x30.toNat (0 : Int)) ∧ ((x28.getD x30.toNat (0 : Int) < (↑n6 : Int)) ∧ ((Int.toNat (x28.getD x30.toNat (0 : Int)) < h0.length) ∧ (bif decide (h0.getD (Int.toNat (x28.getD x30.toNat (0 : Int))) (0 : Int) > (0 : Int)) then R (s1 (false) (h0) (h1) (h2)) else (((0 : Int) ≤ x28.getD x30.toNat (0 : Int)) ∧ ((x28.getD x30.toNat (0 : Int) < (↑x0.length : Int)) ∧ (bif A.F28.val (x0.getD (Int.toNat (x28.getD x30.toNat (0 : Int))) d30) then R (s1 (false) (h0) (h1) (h2)) else (((0 : Int) ≤ x28.getD x30.toNat (0 : Int)) ∧ ((x28.getD x30.toNat (0 : Int) < (↑n6 : Int)) ∧ ((Int.toNat (x28.getD x30.toNat (0 : Int)) < h0.length) ∧ (((0 : Int) ≤ x28.getD x30.toNat (0 : Int)) ∧ ((x28.getD x30.toNat (0 : Int) < (↑n6 : Int)) ∧ ((Int.toNat (x28.getD x30.toNat (0 : Int)) < h0.length) ∧ (((0 : Int) ≤ x28.getD x30.toNat (0 : Int)) ∧ ((x28.getD x30.toNat (0 : Int) < (↑x0.length : Int)) ∧ (bif hasA h1 (x0.getD (Int.toNat (x28.getD x30.toNat (0 : Int))) d30).snd.snd.fst.snd.fst then (bif lookA (0 : Int) h1 (x0.getD (Int.toNat (x28.getD x30.toNat (0 : Int))) d30).snd.snd.fst.snd.fst != x9 then R (s1 (false) (h0.set (Int.toNat (x28.getD x30.toNat (0 : Int))) (IntKind.i64.wrap (h0.getD (Int.toNat (x28.getD x30.toNat (0 : Int))) (0 : Int) + (1 : Int)))) (h1) (h2)) else (((0 : Int) ≤ x28.getD x30.toNat (0 : Int)) ∧ ((x28.getD x30.toNat (0 : Int) < (↑x0.length : Int)) ∧ (((0 : Int) ≤ (0 : Int)) ∧ (((0 : Int) < (↑x10.length : Int)) ∧ (((0 : Int) ≤ x10.getD (Int.toNat (0 : Int)) (0 : Int)) ∧ ((x10.getD (Int.toNat (0 : Int)) (0 : Int) < (↑x0.length : Int)) ∧ (bif (x0.getD (Int.toNat (x28.getD x30.toNat (0 : Int))) d30).snd.snd.fst.snd.fst != (x0.getD (Int.toNat (x10.getD (Int.toNat (0 : Int)) (0 : Int))) d30).snd.snd.fst.snd.fst then R (s1 (false) (h0.set (Int.toNat (x28.getD x30.toNat (0 : Int))) (IntKind.i64.wrap (h0.getD (Int.toNat (x28.getD x30.toNat (0 : Int))) (0 : Int) + (1 : Int)))) (h1) (h2)) else (((0 : Int) ≤ x28.getD x30.toNat (0 : Int)) ∧ ((x28.getD x30.toNat (0 : Int) < (↑x0.length : Int)) ∧ N (st8 (x0, n6, n8, x9, x10, x21, x22, x23, x28, x29, IntKind.i64.wrap (x30 + (1 : Int)), h0.set (Int.toNat (x28.getD x30.toNat (0 : Int))) (IntKind.i64.wrap (h0.getD (Int.toNat (x28.getD x30.toNat (0 : Int))) (0 : Int) + (1 : Int))), setA h1 (x0.getD (Int.toNat (x28.getD x30.toNat (0 : Int))) d30).snd.snd.fst.snd.fst x9, h2)))))))))))) else (((0 : Int) ≤ x28.getD x30.toNat (0 : Int)) ∧ ((x28.getD x30.toNat (0 : Int) < (↑x0.length : Int)) ∧ (((0 : Int) ≤ (0 : Int)) ∧ (((0 : Int) < (↑x10.length : Int)) ∧ (((0 : Int) ≤ x10.getD (Int.toNat (0 : Int)) (0 : Int)) ∧ ((x10.getD (Int.toNat (0 : Int)) (0 : Int) < (↑x0.length : Int)) ∧ (bif (x0.getD (Int.toNat (x28.getD x30.toNat (0 : Int))) d30).snd.snd.fst.snd.fst != (x0.getD (Int.toNat (x10.getD (Int.toNat (0 : Int)) (0 : Int))) d30).snd.snd.fst.snd.fst then R (s1 (false) (h0.set (Int.toNat (x28.getD x30.toNat (0 : Int))) (IntKind.i64.wrap (h0.getD (Int.toNat (x28.getD x30.toNat (0 : Int))) (0 : Int) + (1 : Int)))) (h1) (h2)) else (((0 : Int) ≤ x28.getD x30.toNat (0 : Int)) ∧ ((x28.getD x30.toNat (0 : Int) < (↑x0.length : Int)) ∧ N (st8 (x0, n6, n8, x9, x10, x21, x22, x23, x28, x29, IntKind.i64.wrap (x30 + (1 : Int)), h0.set (Int.toNat (x28.getD x30.toNat (0 : Int))) (IntKind.i64.wrap (h0.getD (Int.toNat (x28.getD x30.toNat (0 : Int))) (0 : Int) + (1 : Int))), setA h1 (x0.getD (Int.toNat (x28.getD x30.toNat (0 : Int))) d30).snd.snd.fst.snd.fst x9, h2))))))))))))))))))))))))))))))) else X 2 (s2 (x0) (n6) (n8) (x10) (x21) (x22) (x23) (h0) (h1) (h2)))
theorem round8 (x0 : (List D30)) (n6 : Nat) (n8 : Nat) (x9 : Int) (x10 : (List Int)) (x21 : (List (List Int))) (x22 : Int) (x23 : Int) (x28 : (List Int)) (x29 : Int) (x30 : Int) (h0 : (List Int)) (h1 : (List (Int × Int))) (h2 : (List D72)) (N : St → Prop) (X : Nat → St → Prop) (R : St → Prop) : exec C callF body8 ⟨0, [3, 3], fun s' => cond (Nat.ble 3 s'.H.length) (N (scrub keep8 3 s')) False, X, R⟩ (st8 (x0, n6, n8, x9, x10, x21, x22, x23, x28, x29, x30, h0, h1, h2)) = Round8 x0 n6 n8 x9 x10 x21 x22 x23 x28 x29 x30 h0 h1 h2 N X R := by kernel_rfl
noncomputable def Round21 (n6 : Nat) (n8 : Nat) (x111 : (List D30)) (x112 : Int) (x113 : Int) (h0 : (List Int)) (h1 : (List (Int × Int))) (h2 : (List D72)) (N : St → Prop) (X : Nat → St → Prop) (R : St → Prop) : Prop :=
  (bif decide (x113 < x112) then (((0 : Int) ≤ x113) ∧ ((x113 < (↑x111.length : Int)) ∧ (bif A.F41.val (x111.getD x113.toNat d30) then (bif !A.F28.val (x111.getD x113.toNat d30) then (((0 : Int) ≤ x113) ∧ ((x113 < (↑n6 : Int)) ∧ ((x113.toNat < h0.length) ∧ (bif h0.getD x113.toNat (0 : Int) == (0 : Int) then R (s1 (false) (h0) (h1) (h2)) else N (st21 (n6, n8, x111, x112, IntKind.i64.wrap (x113 + (1 : Int)), h0, h1, h2)))))) else N (st21 (n6, n8, x111, x112, IntKind.i64.wrap (x113 + (1 : Int)), h0, h1, h2))) else N (st21 (n6, n8, x111, x112, IntKind.i64.wrap (x113 + (1 : Int)), h0, h1, h2))))) else X 4 (s3 (n8) (h0) (h1) (h2)))
theorem round21 (n6 : Nat) (n8 : Nat) (x111 : (List D30)) (x112 : Int) (x113 : Int) (h0 : (List Int)) (h1 : (List (Int × Int))) (h2 : (List D72)) (N : St → Prop) (X : Nat → St → Prop) (R : St → Prop) : exec C callF body21 ⟨0, [3], fun s' => cond (Nat.ble 3 s'.H.length) (N (scrub keep21 3 s')) False, X, R⟩ (st21 (n6, n8, x111, x112, x113, h0, h1, h2)) = Round21 n6 n8 x111 x112 x113 h0 h1 h2 N X R := by kernel_rfl
noncomputable def Main (calls : (List D30)) (orders : (List (List Int))) (k : AV → List HObj → Prop) : Prop :=
  (((↑calls.length : Int) = (↑calls.length : Int)) ∧ (((0 : Int) ≤ (↑calls.length : Int)) ∧ (((↑calls.length : Int) ≤ (↑(8796093022208 : Nat) : Int)) ∧ (st5 (calls, (↑calls.length : Int).toNat, (0 : Nat), orders, (↑orders.length : Int), (0 : Int), List.replicate (↑calls.length : Int).toNat (0 : Int), [], []) = st5 (calls, (↑calls.length : Int).toNat, (0 : Nat), orders, (↑orders.length : Int), (0 : Int), List.replicate (↑calls.length : Int).toNat (0 : Int), [], []) ∧ (((0 : Int) ≤ (0 : Int)) ∧ (((0 : Int) ≤ (↑orders.length : Int)) ∧ ((orders.length ≤ LB) ∧ (((↑orders.length : Int) = (↑orders.length : Int)) ∧ ((∀ (o : List Int), o ∈ orders → o.length ≤ LB) ∧ (((↑calls.length : Int).toNat = calls.length) ∧ (((List.replicate (↑calls.length : Int).toNat (0 : Int)).length = calls.length) ∧ (((↑(0 : Nat) : Int) = (0 : Int)) ∧ (([] = List.map ln0 (List.take (Int.toNat (0 : Int)) orders)) ∧ (bif lsOK calls orders (0 : Int) (List.replicate (↑calls.length : Int).toNat (0 : Int)) [] then (∀ q3 : List (Int × Int), (st21 ((↑calls.length : Int).toNat, orders.length, calls, (↑calls.length : Int), (0 : Int), lsH orders (List.replicate (↑calls.length : Int).toNat (0 : Int)), q3, List.map ln0 orders) = st21 ((↑calls.length : Int).toNat, orders.length, calls, (↑calls.length : Int), (0 : Int), lsH orders (List.replicate (↑calls.length : Int).toNat (0 : Int)), q3, List.map ln0 orders) ∧ (((0 : Int) ≤ (0 : Int)) ∧ (((0 : Int) ≤ (↑calls.length : Int)) ∧ ((calls.length ≤ LB) ∧ (((↑calls.length : Int) = (↑calls.length : Int)) ∧ (((↑calls.length : Int).toNat = calls.length) ∧ (((lsH orders (List.replicate (↑calls.length : Int).toNat (0 : Int))).length = calls.length) ∧ (bif (List.range' (Int.toNat (0 : Int)) (calls.length - Int.toNat (0 : Int))).all (E.F18.inPl calls (lsH orders (List.replicate (↑calls.length : Int).toNat (0 : Int)))) then k (.tup [⟨.ref, (.sl 2 0 (orders.length))⟩, ⟨.bool, (true)⟩]) [.row (.int .i64) (lsH orders (List.replicate (↑calls.length : Int).toNat (0 : Int))) 3, .map (.int .u64) (.int .i64) (q3), .row T72 (List.map ln0 orders) 72] else (∀ q4 : List Int, (∀ q5 : List (Int × Int), (∀ q6 : List D72, k (.tup [⟨.nl, ()⟩, ⟨.bool, (false)⟩]) [.row (.int .i64) (q4) 3, .map (.int .u64) (.int .i64) (q5), .row T72 (q6) 72])))))))))))) else (∀ q3 : List Int, (∀ q4 : List (Int × Int), (∀ q5 : List D72, k (.tup [⟨.nl, ()⟩, ⟨.bool, (false)⟩]) [.row (.int .i64) (q3) 3, .map (.int .u64) (.int .i64) (q4), .row T72 (q5) 72])))))))))))))))))
theorem main (calls : (List D30)) (orders : (List (List Int))) (k : AV → List HObj → Prop) : (runFn C callF Try.f32 [.v (.sl (.pair (.int .u8) (.pair (.int .u64) (.pair (.pair (.int .u8) (.pair (.int .u64) (.pair (.int .u64) (.pair (.sl (.int .u8)) (.pair (.sl (.int .u8)) (.pair .bool (.pair (.int .u8) .unit))))))) (.pair (.int .u8) (.pair (.sl (.int .u8)) (.pair (.int .i64) (.pair (.int .i64) .unit)))))))) calls, .v (.sl (.sl (.int .i64))) orders] [] k) = Main calls orders k := by kernel_rfl
theorem loop8 (v : V8) (X : Nat → St → Prop) (R : St → Prop) : Q8 v X R → ∃ m, loopN C callF keep8 3 body8 ⟨0, [3], fun _ => False, X, R⟩ m (st8 v) := by
  refine loop_ind (fun v => Q8 v X R) (fun (cs, n6, n8, n, o, orders, nn, i, o', k, j, h, e, out) => o.length - j.toNat) ?_ v
  rintro ⟨cs, n6, n8, n, o, orders, nn, i, o', k, j, h, e, out⟩ ⟨h0, h1, h2, rfl, rfl, rfl, hl, hf, h4⟩ N hN
  rw [round8]
  obtain ⟨j, rfl⟩ : ∃ a : Nat, j = a := ⟨j.toNat, by omega⟩
  dsimp only at hN
  rw [Int.toNat_natCast] at h4
  have h2' : o.length ≤ 1073741824 := h2
  refine bif_d (fun hj => ?_) (fun hj => ?_)
  · have hn : j < o.length := by omega
    rw [drop_cons hn 0, lnOK, lnH, lnK] at h4
    rw [Int.toNat_natCast, w64n (by omega)]
    have bad : elOK cs n (ky cs (o.getD 0 0)) (o.getD j 0) h e = false → ∀ (h : List Int) (e : List (Int × Int)) (l : List D72), R (s1 false h e l) := fun x => by
      rw [x, Bool.false_and, cond_false] at h4; exact h4
    have hA : ∀ {a b : Bool}, a = false → (a && b) = false := fun h => by rw [h]; rfl
    have hB : ∀ {a b : Bool}, b = false → (a && b) = false := fun h => by rw [h, Bool.and_false]
    refine ⟨by omega, by omega, bif_d (fun ha => bad ?_ _ _ _) (fun ha => bif_d (fun hb => bad ?_ _ _ _) (fun hb => ⟨by omega, by omega, by omega, bif_d (fun hc => bad ?_ _ _ _) (fun hc => ⟨by omega, by omega, bif_i (fun hd => bad ?_ _ _ _) (fun hd => ?_)⟩)⟩))⟩
    · exact hA (hA (hA (hA (decide_eq_false (by omega)))))
    · exact hA (hA (hA (hB (decide_eq_false (by omega)))))
    · exact hA (hB (by rw [decide_eq_true hc]; rfl))
    · exact hA (hA (hB (by rw [show ((cs.getD (o.getD j 0).toNat d30).2.2.1.1 == 5) = true from hd]; rfl)))
    have hok : okAt cs (o.getD j 0) = true := by
      unfold okAt
      rw [decide_eq_true (show 0 ≤ o.getD j 0 by omega), decide_eq_true (show o.getD j 0 < cs.length by omega), show ((cs.getD (o.getD j 0).toNat d30).2.2.1.1 == 5) = false from hd]; rfl
    have hfirst : 0 ≤ o.getD 0 0 ∧ o.getD 0 0 < cs.length := by
      by_cases hj0 : 0 < j
      · exact hf (by omega)
      · have : j = 0 := by omega
        subst this; exact ⟨by omega, by omega⟩
    have hc' : decide (h.getD (o.getD j 0).toNat 0 > 0) = false := decide_eq_false hc
    have good : (bif hasA e (ky cs (o.getD j 0)) then !(lookA 0 e (ky cs (o.getD j 0)) != n) else true) = true → (!(ky cs (o.getD j 0) != ky cs (o.getD 0 0))) = true →
        N (st8 (cs, cs.length, n8, n, o, orders, nn, i, o, (o.length : Int), ((j + 1 : Nat) : Int), h.set (o.getD j 0).toNat (IntKind.i64.wrap (h.getD (o.getD j 0).toNat 0 + 1)), setA e (ky cs (o.getD j 0)) n, out)) := fun x y => by
      have : elOK cs n (ky cs (o.getD 0 0)) (o.getD j 0) h e = true := by unfold elOK; rw [hok, hc', x, y]; rfl
      rw [this, Bool.true_and] at h4
      exact hN (cs, cs.length, n8, n, o, orders, nn, i, o, (o.length : Int), ((j + 1 : Nat) : Int), h.set (o.getD j 0).toNat (IntKind.i64.wrap (h.getD (o.getD j 0).toNat 0 + 1)), setA e (ky cs (o.getD j 0)) n, out)
        ⟨by omega, by omega, h2, rfl, rfl, rfl, by rw [List.length_set]; exact hl, fun _ => hfirst, by rw [Int.toNat_natCast]; exact h4⟩ (by dsimp only; omega)
    refine ⟨by omega, by omega, by omega, by omega, by omega, by omega, by omega, by omega, bif_i (fun he => bif_i (fun hg => bad ?_ _ _ _) (fun hg => ⟨by omega, by omega, by omega, by omega, hfirst.1, hfirst.2, bif_i (fun hk => bad ?_ _ _ _) (fun hk => ⟨by omega, by omega, good ?_ ?_⟩)⟩)) (fun he => ⟨by omega, by omega, by omega, by omega, hfirst.1, hfirst.2, bif_i (fun hk => bad ?_ _ _ _) (fun hk => ⟨by omega, by omega, good ?_ ?_⟩)⟩)⟩
    · exact hB (hA (by rw [show hasA e (ky cs (o.getD j 0)) = true from he, cond_true, show (lookA 0 e (ky cs (o.getD j 0)) != n) = true from hg]; rfl))
    · exact hB (hB (by rw [show (ky cs (o.getD j 0) != ky cs (o.getD 0 0)) = true from hk]; rfl))
    · rw [show hasA e (ky cs (o.getD j 0)) = true from he, cond_true, show (lookA 0 e (ky cs (o.getD j 0)) != n) = false from hg]; rfl
    · rw [show (ky cs (o.getD j 0) != ky cs (o.getD 0 0)) = false from hk]; rfl
    · exact hB (hB (by rw [show (ky cs (o.getD j 0) != ky cs (o.getD 0 0)) = true from hk]; rfl))
    · rw [show hasA e (ky cs (o.getD j 0)) = false from he, cond_false]
    · rw [show (ky cs (o.getD j 0) != ky cs (o.getD 0 0)) = false from hk]; rfl
  · rw [List.drop_eq_nil_of_le (by omega)] at h4
    exact h4
theorem loop5 (v : V5) (X : Nat → St → Prop) (R : St → Prop) : Q5 v X R → ∃ m, loopN C callF keep5 3 body5 ⟨0, [], fun _ => False, X, R⟩ m (st5 v) := by
  refine loop_ind (fun v => Q5 v X R) (fun (cs, n6, n8, orders, nn, i, h, e, out) => orders.length - i.toNat) ?_ v
  rintro ⟨cs, n6, n8, orders, nn, i, h, e, out⟩ ⟨h0, h1, h2, rfl, hm, rfl, hl, rfl, rfl, h4⟩ N hN
  rw [round5]
  dsimp only at hN
  rw [Int.toNat_natCast] at h4
  have h2' : orders.length ≤ 1073741824 := h2
  refine bif_d (fun hj => ?_) (fun hj => ?_)
  · have hn : n8 < orders.length := by omega
    rw [drop_cons hn [], lsOK, lsH] at h4
    rw [Int.toNat_natCast, w64n (by omega)]
    have ho := hm _ (C.F9.getD_mem hn [])
    have e1 : List.take n8 ((orders.take n8).map ln0) ++ [(orders.getD n8 [], (0 : Int), ())] = (orders.take (n8 + 1)).map ln0 := by
      rw [← List.map_take, List.take_take, Nat.min_self, take_snoc hn [], List.map_append]; rfl
    refine ⟨by omega, by omega, rfl, by omega, by omega, ho, rfl, rfl, rfl, hl, fun h => by omega, ?_⟩
    show bif lnOK cs (n8 : Int) (ky cs ((orders.getD n8 []).getD 0 0)) (orders.getD n8 []) h e then _ else _
    refine bif_i (fun x => ?_) (fun x => ?_)
    · rw [x, Bool.true_and] at h4
      refine ⟨by simp; omega, by omega, by omega, ?_⟩
      have := hN (cs, cs.length, n8 + 1, orders, (orders.length : Int), ((n8 + 1 : Nat) : Int), lnH (orders.getD n8 []) h, lnK cs n8 (orders.getD n8 []) e, (orders.take (n8 + 1)).map ln0)
        ⟨by omega, by omega, h2, rfl, hm, rfl, by rw [lnH_len]; exact hl, rfl, by rw [Int.toNat_natCast], by rw [Int.toNat_natCast]; exact h4⟩ (by dsimp only; omega)
      rw [← e1] at this
      exact this
    · rw [x, Bool.false_and, cond_false] at h4
      exact h4
  · have e1 : n8 = orders.length := by omega
    subst e1
    rw [List.drop_length] at h4
    rw [Int.toNat_natCast, List.take_length]
    exact h4 e
theorem loop21 (v : V21) (X : Nat → St → Prop) (R : St → Prop) : Q21 v X R → ∃ m, loopN C callF keep21 3 body21 ⟨0, [], fun _ => False, X, R⟩ m (st21 v) := by
  refine loop_ind (fun v => Q21 v X R) (fun (n6, n8, cs, nn, i, h, e, out) => cs.length - i.toNat) ?_ v
  rintro ⟨n6, n8, cs, nn, i, h, e, out⟩ ⟨h0, h1, h2, rfl, rfl, hl, h4⟩ N hN
  rw [round21]
  obtain ⟨j, rfl⟩ : ∃ j : Nat, i = j := ⟨i.toNat, by omega⟩
  dsimp only at hN
  rw [Int.toNat_natCast] at h4
  have h2' : cs.length ≤ 1073741824 := h2
  refine bif_d (fun hj => ⟨by omega, hj, ?_⟩) (fun hj => ?_)
  · have hn : j < cs.length := by omega
    rw [F36.range_cons hn, List.all_cons] at h4
    rw [Int.toNat_natCast, w64n (by omega)]
    have good : E.F18.inPl cs h j = true → N (st21 (cs.length, n8, cs, (cs.length : Int), ((j + 1 : Nat) : Int), h, e, out)) := fun x => by
      rw [x, Bool.true_and] at h4
      exact hN (cs.length, n8, cs, (cs.length : Int), ((j + 1 : Nat) : Int), h, e, out) ⟨by omega, by omega, h2, rfl, rfl, hl, by rw [Int.toNat_natCast]; exact h4⟩ (by dsimp only; omega)
    refine bif_i (fun ha => bif_i (fun hb => ⟨by omega, by omega, by omega, bif_i (fun hc => ?_) (fun hc => good ?_)⟩) (fun hb => good ?_)) (fun ha => good ?_)
    · have x : E.F18.inPl cs h j = false := by
        unfold E.F18.inPl
        rw [ha, hb, hc]; rfl
      rw [x, Bool.false_and, cond_false] at h4
      exact h4 _ _ _
    · unfold E.F18.inPl
      rw [hc]; simp
    · unfold E.F18.inPl
      rw [hb]; simp
    · unfold E.F18.inPl
      rw [ha]; rfl
  · rw [show cs.length - j = 0 by omega] at h4
    exact h4
def okL (cs : List D30) (orders : List (List Int)) : Bool := lsOK cs orders 0 (List.replicate cs.length 0) [] && (List.range' 0 cs.length).all (E.F18.inPl cs (lsH orders (List.replicate cs.length 0)))
abbrev VA := (List D30) × (List (List Int))
noncomputable def stA (v : VA) : St := ⟨[.v (.sl T30) (v.1), .v (.sl (.sl (.int .i64))) (v.2)], []⟩
noncomputable def decA (s : St) : Option VA := match gV (.sl T30) (s.T.getD 0 .dead), gV (.sl (.sl (.int .i64))) (s.T.getD 1 .dead) with | some a0, some a1 => some (a0, a1) | _, _ => none
/-- On success the lines lie in a row of one's own. -/
def QA : VA → (AV → List HObj → Prop) → Prop := fun (cs, orders) κ => cs.length ≤ LB ∧ orders.length ≤ LB ∧ (∀ o ∈ orders, o.length ≤ LB) ∧
  bif okL cs orders then (∀ (h : List Int) (e : List (Int × Int)), κ (.tup [⟨.ref, .sl 2 0 orders.length⟩, ⟨.bool, true⟩]) [.row (.int .i64) h 3, .map (.int .u64) (.int .i64) e, .row T72 (orders.map ln0) 72]) else ∀ (h : List Int) (e : List (Int × Int)) (l : List D72), κ (.tup [⟨.nl, ()⟩, ⟨.bool, false⟩]) [.row (.int .i64) h 3, .map (.int .u64) (.int .i64) e, .row T72 l 72]
theorem spec (cs : List D30) (orders : List (List Int)) (k : AV → List HObj → Prop) (h : QA (cs, orders) k) : Main cs orders k := by
  obtain ⟨hc, ho, hm, hk⟩ := h
  have hc' : cs.length ≤ 1073741824 := hc
  rw [Main, Int.toNat_natCast]
  refine ⟨rfl, by omega, by omega, rfl, by omega, by omega, ho, rfl, hm, rfl, by simp, rfl, rfl, ?_⟩
  unfold okL at hk
  refine bif_i (fun x => fun e => ⟨rfl, by omega, by omega, hc, rfl, rfl, by rw [lsH_len]; simp, ?_⟩) (fun x => fun _ _ _ => ?_)
  · rw [x, Bool.true_and] at hk
    show bif (List.range' 0 cs.length).all (E.F18.inPl cs (lsH orders (List.replicate cs.length 0))) then _ else _
    refine bif_i (fun y => ?_) (fun y => fun _ _ _ => ?_)
    · rw [y, cond_true] at hk
      exact hk _ _
    · rw [y, cond_false] at hk
      exact hk _ _ _
  · rw [x, Bool.false_and, cond_false] at hk
    exact hk _ _ _
noncomputable def cf : CF := mkC decA stA QA
theorem loopsOK : LoopsOK C callF (bodyOf Try.f32) := loopsOK_seek (tbl := loops) (fun _ => rfl) (by kernel_rfl) (List.forall_mem_cons.2 ⟨mkL_ok loop5, List.forall_mem_cons.2 ⟨mkL_ok loop8, List.forall_mem_cons.2 ⟨mkL_ok loop21, fun _ h => nomatch h⟩⟩⟩)
theorem pursOK : ∀ g ts F, C.pur g = some (ts, F) → SoundP Try.prog g F := purOf_ok (l := purs) (List.forall_mem_cons.2 ⟨Go.Proofs.Ytdjdbjcapenjeaa.A.F28.ok, List.forall_mem_cons.2 ⟨Go.Proofs.Ytdjdbjcapenjeaa.A.F41.ok, fun _ h => nomatch h⟩⟩)
theorem cfsOK : ∀ g, SoundF Try.prog g (callF g) := fun g => soundF_none g
theorem ok : SoundF Try.prog 32 cf := mkC_ok (soundF_run (C := C) (callF := callF) (tabOK C rfl rfl rfl) cfsOK pursOK Try.func32 (by kernel_rfl) loopsOK) (by
  rintro ⟨calls, orders⟩ κ hq
  show runFn C callF Try.f32 [.v (.sl T30) calls, .v (.sl (.sl (.int .i64))) orders] [] κ
  rw [main]
  exact spec calls orders κ hq)
end F32

end Go.Proofs.Ytdjdbjcapenjeaa.N
