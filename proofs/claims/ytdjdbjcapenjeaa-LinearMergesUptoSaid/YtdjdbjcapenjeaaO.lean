/- Merge: the program's -/
import Derived.Test.YtdjdbjcapenjeaaDxTab
import Derived.Test.YtdjdbjcapenjeaaDx3
import Derived.Test.YtdjdbjcapenjeaaDxTy
import Derived.Test.YtdjdbjcapenjeaaN
import Derived.Test.YtdjdbjcapenjeaaC
import Derived.Test.YtdjdbjcapenjeaaM
set_option linter.unusedVariables false
set_option maxRecDepth 100000
open Go Go.Proofs Go.Proofs.Ytdjdbjcapenjeaa.Dx Go.Proofs.Ytdjdbjcapenjeaa.Dx.TYtdjdbjcapenjeaa
namespace Go.Proofs.Ytdjdbjcapenjeaa.O
open D M N
namespace F14
abbrev V8 := (List D30) × Nat × Int × Nat × Int × Int × (List Int) × (List (Int × Int)) × (List D72)
noncomputable def st8 (v : V8) : St := ⟨[.v (.sl T30) (v.1), .dead, .dead, .dead, .dead, .dead, .v .ref (.sl 2 0 (v.2.1)), .dead, .v (.int .i64) (v.2.2.1), .dead, .dead, .dead, .dead, .dead, .dead, .dead, .dead, .dead, .dead, .dead, .dead, .dead, .dead, .dead, .dead, .dead, .dead, .v .ref (.sl 2 0 (v.2.2.2.1)), .v (.int .i64) (v.2.2.2.2.1), .v (.int .i64) (v.2.2.2.2.2.1), .dead, .dead, .dead, .dead, .dead, .dead, .dead, .dead, .dead, .dead, .dead, .dead, .dead, .dead, .dead, .dead, .dead, .dead, .dead, .dead, .dead, .dead, .dead, .dead, .dead, .dead, .dead, .dead, .dead, .dead, .dead, .dead, .dead, .dead, .dead, .dead, .dead, .dead, .dead, .dead, .dead, .dead, .dead, .dead, .dead, .dead, .dead, .dead, .dead, .dead, .dead, .dead, .dead, .dead, .dead, .dead, .dead, .dead, .dead, .dead, .dead, .dead, .dead, .dead, .dead, .dead, .dead, .dead, .dead, .dead, .dead, .dead, .dead, .dead, .dead, .dead, .dead, .dead, .dead, .dead, .dead, .dead, .dead, .dead, .dead, .dead, .dead, .dead, .dead, .dead, .dead, .dead, .dead, .dead, .dead, .dead, .dead, .dead], [.row (.int .i64) (v.2.2.2.2.2.2.1) 3, .map (.int .u64) (.int .i64) (v.2.2.2.2.2.2.2.1), .row T72 (v.2.2.2.2.2.2.2.2) 72]⟩
noncomputable def dec8 (s : St) : Option V8 := match gV (.sl T30) (s.T.getD 0 .dead), gV .ref (s.T.getD 6 .dead), gV (.int .i64) (s.T.getD 8 .dead), gV .ref (s.T.getD 27 .dead), gV (.int .i64) (s.T.getD 28 .dead), gV (.int .i64) (s.T.getD 29 .dead), gRow (.int .i64) s.H[0]?, gMap (.int .i64) s.H[1]?, gRow T72 s.H[2]? with | some a0, some a6, some a8, some a27, some a28, some a29, some b0, some b1, some b2 => some (a0, rN (a6), a8, rN (a27), a28, a29, b0, b1, b2) | _, _, _, _, _, _, _, _, _ => none
noncomputable def keep8 : List Nat := [0, 6, 8, 27, 28, 29]
noncomputable def body8 : Code := bodyAt (loopsOf (bodyOf Try.f14)) 8
abbrev V13 := (List D30) × Nat × Int × Nat × (List Int) × (List (Int × Int)) × (List D72) × (List Int)
noncomputable def st13 (v : V13) : St := ⟨[.v (.sl T30) (v.1), .dead, .dead, .dead, .dead, .dead, .v .ref (.sl 2 0 (v.2.1)), .dead, .v (.int .i64) (v.2.2.1), .dead, .dead, .v .ref (.sl 3 0 (v.2.2.2.1)), .dead, .dead, .dead, .dead, .dead, .dead, .dead, .dead, .dead, .dead, .dead, .dead, .dead, .dead, .dead, .dead, .dead, .dead, .dead, .dead, .dead, .dead, .dead, .dead, .dead, .dead, .dead, .dead, .dead, .dead, .dead, .dead, .dead, .dead, .dead, .dead, .dead, .dead, .dead, .dead, .dead, .dead, .dead, .dead, .dead, .dead, .dead, .dead, .dead, .dead, .dead, .dead, .dead, .dead, .dead, .dead, .dead, .dead, .dead, .dead, .dead, .dead, .dead, .dead, .dead, .dead, .dead, .dead, .dead, .dead, .dead, .dead, .dead, .dead, .dead, .dead, .dead, .dead, .dead, .dead, .dead, .dead, .dead, .dead, .dead, .dead, .dead, .dead, .dead, .dead, .dead, .dead, .dead, .dead, .dead, .dead, .dead, .dead, .dead, .dead, .dead, .dead, .dead, .dead, .dead, .dead, .dead, .dead, .dead, .dead, .dead, .dead, .dead, .dead, .dead, .dead], [.row (.int .i64) (v.2.2.2.2.1) 3, .map (.int .u64) (.int .i64) (v.2.2.2.2.2.1), .row T72 (v.2.2.2.2.2.2.1) 72, .row (.int .i64) (v.2.2.2.2.2.2.2) 3]⟩
noncomputable def dec13 (s : St) : Option V13 := match gV (.sl T30) (s.T.getD 0 .dead), gV .ref (s.T.getD 6 .dead), gV (.int .i64) (s.T.getD 8 .dead), gV .ref (s.T.getD 11 .dead), gRow (.int .i64) s.H[0]?, gMap (.int .i64) s.H[1]?, gRow T72 s.H[2]?, gRow (.int .i64) s.H[3]? with | some a0, some a6, some a8, some a11, some b0, some b1, some b2, some b3 => some (a0, rN (a6), a8, rN (a11), b0, b1, b2, b3) | _, _, _, _, _, _, _, _ => none
noncomputable def keep13 : List Nat := [0, 6, 8, 11]
noncomputable def body13 : Code := bodyAt (loopsOf (bodyOf Try.f14)) 13
abbrev V17 := (List D30) × Nat × Int × Nat × Int × Int × Nat × Int × Int × (List Int) × (List (Int × Int)) × (List D72) × (List Int)
noncomputable def st17 (v : V17) : St := ⟨[.v (.sl T30) (v.1), .dead, .dead, .dead, .dead, .dead, .v .ref (.sl 2 0 (v.2.1)), .dead, .v (.int .i64) (v.2.2.1), .dead, .dead, .v .ref (.sl 3 0 (v.2.2.2.1)), .v (.int .i64) (v.2.2.2.2.1), .v (.int .i64) (v.2.2.2.2.2.1), .dead, .dead, .dead, .dead, .dead, .dead, .dead, .dead, .dead, .dead, .dead, .dead, .dead, .dead, .dead, .dead, .dead, .dead, .dead, .dead, .dead, .dead, .dead, .dead, .dead, .dead, .dead, .dead, .dead, .dead, .dead, .dead, .v .ref (.sl 2 0 (v.2.2.2.2.2.2.1)), .v (.int .i64) (v.2.2.2.2.2.2.2.1), .v (.int .i64) (v.2.2.2.2.2.2.2.2.1), .dead, .dead, .dead, .dead, .dead, .dead, .dead, .dead, .dead, .dead, .dead, .dead, .dead, .dead, .dead, .dead, .dead, .dead, .dead, .dead, .dead, .dead, .dead, .dead, .dead, .dead, .dead, .dead, .dead, .dead, .dead, .dead, .dead, .dead, .dead, .dead, .dead, .dead, .dead, .dead, .dead, .dead, .dead, .dead, .dead, .dead, .dead, .dead, .dead, .dead, .dead, .dead, .dead, .dead, .dead, .dead, .dead, .dead, .dead, .dead, .dead, .dead, .dead, .dead, .dead, .dead, .dead, .dead, .dead, .dead, .dead, .dead, .dead, .dead, .dead, .dead, .dead, .dead, .dead], [.row (.int .i64) (v.2.2.2.2.2.2.2.2.2.1) 3, .map (.int .u64) (.int .i64) (v.2.2.2.2.2.2.2.2.2.2.1), .row T72 (v.2.2.2.2.2.2.2.2.2.2.2.1) 72, .row (.int .i64) (v.2.2.2.2.2.2.2.2.2.2.2.2) 3]⟩
noncomputable def dec17 (s : St) : Option V17 := match gV (.sl T30) (s.T.getD 0 .dead), gV .ref (s.T.getD 6 .dead), gV (.int .i64) (s.T.getD 8 .dead), gV .ref (s.T.getD 11 .dead), gV (.int .i64) (s.T.getD 12 .dead), gV (.int .i64) (s.T.getD 13 .dead), gV .ref (s.T.getD 46 .dead), gV (.int .i64) (s.T.getD 47 .dead), gV (.int .i64) (s.T.getD 48 .dead), gRow (.int .i64) s.H[0]?, gMap (.int .i64) s.H[1]?, gRow T72 s.H[2]?, gRow (.int .i64) s.H[3]? with | some a0, some a6, some a8, some a11, some a12, some a13, some a46, some a47, some a48, some b0, some b1, some b2, some b3 => some (a0, rN (a6), a8, rN (a11), a12, a13, rN (a46), a47, a48, b0, b1, b2, b3) | _, _, _, _, _, _, _, _, _, _, _, _, _ => none
noncomputable def keep17 : List Nat := [0, 6, 8, 11, 12, 13, 46, 47, 48]
noncomputable def body17 : Code := bodyAt (loopsOf (bodyOf Try.f14)) 17
noncomputable def s0 (x0 : (List D30)) (n6 : Nat) (x8 : Int) (h0 : (List Int)) (h1 : (List (Int × Int))) (h2 : (List D72)) : St := ⟨[.v (.sl T30) x0, .dead, .dead, .dead, .dead, .dead, .v .ref (.sl 2 0 n6), .dead, .v (.int .i64) x8, .dead, .dead, .dead, .dead, .dead, .dead, .dead, .dead, .dead, .dead, .dead, .dead, .dead, .dead, .dead, .dead, .dead, .dead, .dead, .dead, .dead, .dead, .dead, .dead, .dead, .dead, .dead, .dead, .dead, .dead, .dead, .dead, .dead, .dead, .dead, .dead, .dead, .dead, .dead, .dead, .dead, .dead, .dead, .dead, .dead, .dead, .dead, .dead, .dead, .dead, .dead, .dead, .dead, .dead, .dead, .dead, .dead, .dead, .dead, .dead, .dead, .dead, .dead, .dead, .dead, .dead, .dead, .dead, .dead, .dead, .dead, .dead, .dead, .dead, .dead, .dead, .dead, .dead, .dead, .dead, .dead, .dead, .dead, .dead, .dead, .dead, .dead, .dead, .dead, .dead, .dead, .dead, .dead, .dead, .dead, .dead, .dead, .dead, .dead, .dead, .dead, .dead, .dead, .dead, .dead, .dead, .dead, .dead, .dead, .dead, .dead, .dead, .dead, .dead, .dead, .dead, .dead, .dead, .dead], [.row (.int .i64) h0 3, .map (.int .u64) (.int .i64) h1, .row T72 h2 72]⟩
noncomputable def s1 (x5 : Int) (h0 : (List Int)) (h1 : (List (Int × Int))) (h2 : (List D72)) (h3 : (List Int)) : St := ⟨[.dead, .dead, .dead, .dead, .v .nl (), .v (.int .i64) x5, .dead, .dead, .dead, .dead, .dead, .dead, .dead, .dead, .dead, .dead, .dead, .dead, .dead, .dead, .dead, .dead, .dead, .dead, .dead, .dead, .dead, .dead, .dead, .dead, .dead, .dead, .dead, .dead, .dead, .dead, .dead, .dead, .dead, .dead, .dead, .dead, .dead, .dead, .dead, .dead, .dead, .dead, .dead, .dead, .dead, .dead, .dead, .dead, .dead, .dead, .dead, .dead, .dead, .dead, .dead, .dead, .dead, .dead, .dead, .dead, .dead, .dead, .dead, .dead, .dead, .dead, .dead, .dead, .dead, .dead, .dead, .dead, .dead, .dead, .dead, .dead, .dead, .dead, .dead, .dead, .dead, .dead, .dead, .dead, .dead, .dead, .dead, .dead, .dead, .dead, .dead, .dead, .dead, .dead, .dead, .dead, .dead, .dead, .dead, .dead, .dead, .dead, .dead, .dead, .dead, .dead, .dead, .dead, .dead, .dead, .dead, .dead, .dead, .dead, .dead, .dead, .dead, .dead, .dead, .dead, .dead, .dead], [.row (.int .i64) h0 3, .map (.int .u64) (.int .i64) h1, .row T72 h2 72, .row (.int .i64) h3 3]⟩
noncomputable def s2 (n11 : Nat) (h0 : (List Int)) (h1 : (List (Int × Int))) (h2 : (List D72)) (h3 : (List Int)) : St := ⟨[.dead, .dead, .dead, .dead, .dead, .dead, .dead, .dead, .dead, .dead, .dead, .v .ref (.sl 3 0 n11), .dead, .dead, .dead, .dead, .dead, .dead, .dead, .dead, .dead, .dead, .dead, .dead, .dead, .dead, .dead, .dead, .dead, .dead, .dead, .dead, .dead, .dead, .dead, .dead, .dead, .dead, .dead, .dead, .dead, .dead, .dead, .dead, .dead, .dead, .dead, .dead, .dead, .dead, .dead, .dead, .dead, .dead, .dead, .dead, .dead, .dead, .dead, .dead, .dead, .dead, .dead, .dead, .dead, .dead, .dead, .dead, .dead, .dead, .dead, .dead, .dead, .dead, .dead, .dead, .dead, .dead, .dead, .dead, .dead, .dead, .dead, .dead, .dead, .dead, .dead, .dead, .dead, .dead, .dead, .dead, .dead, .dead, .dead, .dead, .dead, .dead, .dead, .dead, .dead, .dead, .dead, .dead, .dead, .dead, .dead, .dead, .dead, .dead, .dead, .dead, .dead, .dead, .dead, .dead, .dead, .dead, .dead, .dead, .dead, .dead, .dead, .dead, .dead, .dead, .dead, .dead], [.row (.int .i64) h0 3, .map (.int .u64) (.int .i64) h1, .row T72 h2 72, .row (.int .i64) h3 3]⟩
noncomputable def s3 (x0 : (List D30)) (n6 : Nat) (x8 : Int) (n11 : Nat) (x13 : Int) (h0 : (List Int)) (h1 : (List (Int × Int))) (h2 : (List D72)) (h3 : (List Int)) : St := ⟨[.v (.sl T30) x0, .dead, .dead, .dead, .dead, .dead, .v .ref (.sl 2 0 n6), .dead, .v (.int .i64) x8, .dead, .dead, .v .ref (.sl 3 0 n11), .dead, .v (.int .i64) x13, .dead, .dead, .dead, .dead, .dead, .dead, .dead, .dead, .dead, .dead, .dead, .dead, .dead, .dead, .dead, .dead, .dead, .dead, .dead, .dead, .dead, .dead, .dead, .dead, .dead, .dead, .dead, .dead, .dead, .dead, .dead, .dead, .dead, .dead, .dead, .dead, .dead, .dead, .dead, .dead, .dead, .dead, .dead, .dead, .dead, .dead, .dead, .dead, .dead, .dead, .dead, .dead, .dead, .dead, .dead, .dead, .dead, .dead, .dead, .dead, .dead, .dead, .dead, .dead, .dead, .dead, .dead, .dead, .dead, .dead, .dead, .dead, .dead, .dead, .dead, .dead, .dead, .dead, .dead, .dead, .dead, .dead, .dead, .dead, .dead, .dead, .dead, .dead, .dead, .dead, .dead, .dead, .dead, .dead, .dead, .dead, .dead, .dead, .dead, .dead, .dead, .dead, .dead, .dead, .dead, .dead, .dead, .dead, .dead, .dead, .dead, .dead, .dead, .dead], [.row (.int .i64) h0 3, .map (.int .u64) (.int .i64) h1, .row T72 h2 72, .row (.int .i64) h3 3]⟩
def sm : List D72 → Int
  | [] => 0
  | l :: r => l.1.length + sm r
theorem sm_nn : ∀ l : List D72, 0 ≤ sm l
  | [] => Int.le_refl 0
  | l :: r => by have := sm_nn r; rw [sm]; omega
/-- The next number of a line. -/
def hd (l : D72) : Int := l.1.getD l.2.1.toNat 0
/-- The best of these lines, and of one that was found. -/
def bst (cs : List D30) (all : List D72) (e : Int) : List Nat → Int → Int
  | [], b => b
  | i :: r, b => bst cs all e r (bif (all.getD i d72).2.1 == ((all.getD i d72).1.length : Int) then b else
      bif decide (e ≥ 0) && decide ((cs.getD (hd (all.getD i d72)).toNat d30).2.2.2.2.2.1 > e) then b else
      bif decide (b < 0) then (i : Int) else bif decide (hd (all.getD i d72) < hd (all.getD b.toNat d72)) then (i : Int) else b)
/-- So many steps of the merge. -/
def mg (cs : List D30) : Nat → List D72 → List Int → Bool × List Int
  | 0, _, out => (true, out)
  | f + 1, all, out => bif decide (bst cs all (mnA cs all (-1)) (List.range' 0 all.length) (-1) < 0) then (false, out) else
      mg cs f (all.set (bst cs all (mnA cs all (-1)) (List.range' 0 all.length) (-1)).toNat ((all.getD (bst cs all (mnA cs all (-1)) (List.range' 0 all.length) (-1)).toNat d72).1, (all.getD (bst cs all (mnA cs all (-1)) (List.range' 0 all.length) (-1)).toNat d72).2.1 + 1, ()))
        (out ++ [hd (all.getD (bst cs all (mnA cs all (-1)) (List.range' 0 all.length) (-1)).toNat d72)])
def Q8 : V8 → (Nat → St → Prop) → (St → Prop) → Prop := fun (cs, n6, t, n, k, i, h, e, all) X R => 0 ≤ i ∧ i ≤ all.length ∧ all.length ≤ LB ∧ n = all.length ∧ k = all.length ∧ 0 ≤ t ∧ t + sm (all.drop i.toNat) ≤ (LB : Int) ∧ X 0 (s0 cs n6 (t + sm (all.drop i.toNat)) h e all)
def Q17 : V17 → (Nat → St → Prop) → (St → Prop) → Prop := fun (cs, n6, t, n11, m, b, n, k, i, h, e, all, out) X R => 0 ≤ i ∧ i ≤ all.length ∧ all.length ≤ LB ∧ n = all.length ∧ k = all.length ∧ n6 = all.length ∧ LOK cs all ∧ (b < 0 ∨ 0 ≤ b ∧ b < all.length ∧ (all.getD b.toNat d72).2.1 < (all.getD b.toNat d72).1.length) ∧
  X 4 (s3 cs n6 t n11 (bst cs all m (List.range' i.toNat (all.length - i.toNat)) b) h e all out)
def Q13 : V13 → (Nat → St → Prop) → (St → Prop) → Prop := fun (cs, n6, t, n11, h, e, all, out) X R => n11 = out.length ∧ (out.length : Int) ≤ t ∧ t ≤ (LB : Int) ∧ all.length ≤ LB ∧ n6 = all.length ∧ LOK cs all ∧
  bif (mg cs (t.toNat - out.length) all out).1 then (∀ (h : List Int) (e : List (Int × Int)) (a : List D72), X 2 (s2 (mg cs (t.toNat - out.length) all out).2.length h e a (mg cs (t.toNat - out.length) all out).2)) else ∀ (h : List Int) (e : List (Int × Int)) (a : List D72) (o : List Int), R (s1 142 h e a o)
noncomputable def purs : List (Nat × (List Ty × (List AV → PV))) := [(31, (Go.Proofs.Ytdjdbjcapenjeaa.C.F31.ts, Go.Proofs.Ytdjdbjcapenjeaa.C.F31.G)), (33, (Go.Proofs.Ytdjdbjcapenjeaa.M.F33.ts, Go.Proofs.Ytdjdbjcapenjeaa.M.F33.G))]
noncomputable def callF (g : FuncId) : CF := match seek [(32, Go.Proofs.Ytdjdbjcapenjeaa.N.F32.cf)] g with | some F => F | none => fun _ _ _ => False
noncomputable def L8 : K → Nat → St → Prop := mkL dec8 st8 0 3 [] Q8
noncomputable def L13 : K → Nat → St → Prop := mkL dec13 st13 0 4 [] Q13
noncomputable def L17 : K → Nat → St → Prop := mkL dec17 st17 0 4 [4] Q17
noncomputable def loops : List (Nat × (List Nat × (K → Nat → St → Prop))) := [(8, (keep8, L8)), (13, (keep13, L13)), (17, (keep17, L17))]
noncomputable def C : Ctx := { ti := ti, meth := meth, can := can, pur := purOf purs, loops := fun i => seek loops i, gh := fun _ => [], owns := fun i => seek [(11, ((.int .i64), 3))] i, xk := fun i => seek [(0, ([0, 6, 8], 0)), (2, ([11], 0)), (4, ([0, 6, 8, 11, 13], 0))] i, rk := some ([4, 5], 4) }
noncomputable def Round8 (x0 : (List D30)) (n6 : Nat) (x8 : Int) (n27 : Nat) (x28 : Int) (x29 : Int) (h0 : (List Int)) (h1 : (List (Int × Int))) (h2 : (List D72)) (N : St → Prop) (X : Nat → St → Prop) (R : St → Prop) : Prop :=
  (bif decide (x29 < x28) then (((0 : Int) ≤ x29) ∧ ((x29 < (↑n27 : Int)) ∧ ((x29.toNat < h2.length) ∧ N (st8 (x0, n6, IntKind.i64.wrap (x8 + (↑(List.length (h2.getD x29.toNat d72).fst) : Int)), n27, x28, IntKind.i64.wrap (x29 + (1 : Int)), h0, h1, h2))))) else X 0 (s0 (x0) (n6) (x8) (h0) (h1) (h2)))
theorem round8 (x0 : (List D30)) (n6 : Nat) (x8 : Int) (n27 : Nat) (x28 : Int) (x29 : Int) (h0 : (List Int)) (h1 : (List (Int × Int))) (h2 : (List D72)) (N : St → Prop) (X : Nat → St → Prop) (R : St → Prop) : exec C callF body8 ⟨0, [3], fun s' => cond (Nat.ble 3 s'.H.length) (N (scrub keep8 3 s')) False, X, R⟩ (st8 (x0, n6, x8, n27, x28, x29, h0, h1, h2)) = Round8 x0 n6 x8 n27 x28 x29 h0 h1 h2 N X R := by kernel_rfl
noncomputable def Round13 (x0 : (List D30)) (n6 : Nat) (x8 : Int) (n11 : Nat) (h0 : (List Int)) (h1 : (List (Int × Int))) (h2 : (List D72)) (h3 : (List Int)) (N : St → Prop) (X : Nat → St → Prop) (R : St → Prop) : Prop :=
  (bif decide ((↑n11 : Int) < x8) then (((0 : Nat) + n6 ≤ h2.length) ∧ (((List.take n6 h2).length ≤ LB) ∧ ((LOK x0 (List.take n6 h2)) ∧ (st17 (x0, n6, x8, n11, mnA x0 (List.take n6 h2) (-1 : Int), (-1 : Int), n6, (↑n6 : Int), (0 : Int), h0, h1, h2, h3) = st17 (x0, n6, x8, n11, mnA x0 (List.take n6 h2) (-1 : Int), (-1 : Int), n6, (↑n6 : Int), (0 : Int), h0, h1, h2, h3) ∧ (((0 : Int) ≤ (0 : Int)) ∧ (((0 : Int) ≤ (↑h2.length : Int)) ∧ ((h2.length ≤ LB) ∧ ((n6 = h2.length) ∧ (((↑n6 : Int) = (↑h2.length : Int)) ∧ ((n6 = h2.length) ∧ ((LOK x0 h2) ∧ (((-1 : Int) < (0 : Int) ∨ (0 : Int) ≤ (-1 : Int) ∧ (-1 : Int) < (↑h2.length : Int) ∧ (h2.getD (-1 : Int).toNat d72).snd.fst < (↑(h2.getD (-1 : Int).toNat d72).fst.length : Int)) ∧ (bif decide (bst x0 h2 (mnA x0 (List.take n6 h2) (-1 : Int)) (List.range' (Int.toNat (0 : Int)) (h2.length - Int.toNat (0 : Int))) (-1 : Int) < (0 : Int)) then R (s1 ((142 : Int)) (h0) (h1) (h2) (h3)) else (((0 : Int) ≤ bst x0 h2 (mnA x0 (List.take n6 h2) (-1 : Int)) (List.range' (Int.toNat (0 : Int)) (h2.length - Int.toNat (0 : Int))) (-1 : Int)) ∧ ((bst x0 h2 (mnA x0 (List.take n6 h2) (-1 : Int)) (List.range' (Int.toNat (0 : Int)) (h2.length - Int.toNat (0 : Int))) (-1 : Int) < (↑n6 : Int)) ∧ (((bst x0 h2 (mnA x0 (List.take n6 h2) (-1 : Int)) (List.range' (Int.toNat (0 : Int)) (h2.length - Int.toNat (0 : Int))) (-1 : Int)).toNat < h2.length) ∧ (((0 : Int) ≤ bst x0 h2 (mnA x0 (List.take n6 h2) (-1 : Int)) (List.range' (Int.toNat (0 : Int)) (h2.length - Int.toNat (0 : Int))) (-1 : Int)) ∧ ((bst x0 h2 (mnA x0 (List.take n6 h2) (-1 : Int)) (List.range' (Int.toNat (0 : Int)) (h2.length - Int.toNat (0 : Int))) (-1 : Int) < (↑n6 : Int)) ∧ (((bst x0 h2 (mnA x0 (List.take n6 h2) (-1 : Int)) (List.range' (Int.toNat (0 : Int)) (h2.length - Int.toNat (0 : Int))) (-1 : Int)).toNat < h2.length) ∧ (((0 : Int) ≤ (h2.getD (bst x0 h2 (mnA x0 (List.take n6 h2) (-1 : Int)) (List.range' (Int.toNat (0 : Int)) (h2.length - Int.toNat (0 : Int))) (-1 : Int)).toNat d72).snd.fst) ∧ (((h2.getD (bst x0 h2 (mnA x0 (List.take n6 h2) (-1 : Int)) (List.range' (Int.toNat (0 : Int)) (h2.length - Int.toNat (0 : Int))) (-1 : Int)).toNat d72).snd.fst < (↑(List.length (h2.getD (bst x0 h2 (mnA x0 (List.take n6 h2) (-1 : Int)) (List.range' (Int.toNat (0 : Int)) (h2.length - Int.toNat (0 : Int))) (-1 : Int)).toNat d72).fst) : Int)) ∧ ((n11 ≤ h3.length) ∧ ((n11 + (1 : Nat) ≤ (8796093022208 : Nat)) ∧ (((0 : Nat) + (1 : Nat) ≤ (1 : Nat)) ∧ (((0 : Int) ≤ bst x0 h2 (mnA x0 (List.take n6 h2) (-1 : Int)) (List.range' (Int.toNat (0 : Int)) (h2.length - Int.toNat (0 : Int))) (-1 : Int)) ∧ ((bst x0 h2 (mnA x0 (List.take n6 h2) (-1 : Int)) (List.range' (Int.toNat (0 : Int)) (h2.length - Int.toNat (0 : Int))) (-1 : Int) < (↑n6 : Int)) ∧ (((bst x0 h2 (mnA x0 (List.take n6 h2) (-1 : Int)) (List.range' (Int.toNat (0 : Int)) (h2.length - Int.toNat (0 : Int))) (-1 : Int)).toNat < h2.length) ∧ (((0 : Int) ≤ bst x0 h2 (mnA x0 (List.take n6 h2) (-1 : Int)) (List.range' (Int.toNat (0 : Int)) (h2.length - Int.toNat (0 : Int))) (-1 : Int)) ∧ ((bst x0 h2 (mnA x0 (List.take n6 h2) (-1 : Int)) (List.range' (Int.toNat (0 : Int)) (h2.length - Int.toNat (0 : Int))) (-1 : Int) < (↑n6 : Int)) ∧ (((bst x0 h2 (mnA x0 (List.take n6 h2) (-1 : Int)) (List.range' (Int.toNat (0 : Int)) (h2.length - Int.toNat (0 : Int))) (-1 : Int)).toNat < h2.length) ∧ N (st13 (x0, n6, x8, n11 + (1 : Nat), h0, h1, h2.set (bst x0 h2 (mnA x0 (List.take n6 h2) (-1 : Int)) (List.range' (Int.toNat (0 : Int)) (h2.length - Int.toNat (0 : Int))) (-1 : Int)).toNat ((h2.getD (bst x0 h2 (mnA x0 (List.take n6 h2) (-1 : Int)) (List.range' (Int.toNat (0 : Int)) (h2.length - Int.toNat (0 : Int))) (-1 : Int)).toNat d72).fst, IntKind.i64.wrap ((h2.getD (bst x0 h2 (mnA x0 (List.take n6 h2) (-1 : Int)) (List.range' (Int.toNat (0 : Int)) (h2.length - Int.toNat (0 : Int))) (-1 : Int)).toNat d72).snd.fst + (1 : Int)), (h2.getD (bst x0 h2 (mnA x0 (List.take n6 h2) (-1 : Int)) (List.range' (Int.toNat (0 : Int)) (h2.length - Int.toNat (0 : Int))) (-1 : Int)).toNat d72).snd.snd), List.take n11 h3 ++ [List.getD (h2.getD (bst x0 h2 (mnA x0 (List.take n6 h2) (-1 : Int)) (List.range' (Int.toNat (0 : Int)) (h2.length - Int.toNat (0 : Int))) (-1 : Int)).toNat d72).fst (Int.toNat (h2.getD (bst x0 h2 (mnA x0 (List.take n6 h2) (-1 : Int)) (List.range' (Int.toNat (0 : Int)) (h2.length - Int.toNat (0 : Int))) (-1 : Int)).toNat d72).snd.fst) (0 : Int)])))))))))))))))))))))))))))))))) else X 2 (s2 (n11) (h0) (h1) (h2) (h3)))
theorem round13 (x0 : (List D30)) (n6 : Nat) (x8 : Int) (n11 : Nat) (h0 : (List Int)) (h1 : (List (Int × Int))) (h2 : (List D72)) (h3 : (List Int)) (N : St → Prop) (X : Nat → St → Prop) (R : St → Prop) : exec C callF body13 ⟨0, [4], fun s' => cond (Nat.ble 4 s'.H.length) (N (scrub keep13 4 s')) False, X, R⟩ (st13 (x0, n6, x8, n11, h0, h1, h2, h3)) = Round13 x0 n6 x8 n11 h0 h1 h2 h3 N X R := by kernel_rfl
noncomputable def Round17 (x0 : (List D30)) (n6 : Nat) (x8 : Int) (n11 : Nat) (x12 : Int) (x13 : Int) (n46 : Nat) (x47 : Int) (x48 : Int) (h0 : (List Int)) (h1 : (List (Int × Int))) (h2 : (List D72)) (h3 : (List Int)) (N : St → Prop) (X : Nat → St → Prop) (R : St → Prop) : Prop :=
  (bif decide (x48 < x47) then (((0 : Int) ≤ x48) ∧ ((x48 < (↑n46 : Int)) ∧ ((x48.toNat < h2.length) ∧ (bif (h2.getD x48.toNat d72).snd.fst == (↑(List.length (h2.getD x48.toNat d72).fst) : Int) then N (st17 (x0, n6, x8, n11, x12, x13, n46, x47, IntKind.i64.wrap (x48 + (1 : Int)), h0, h1, h2, h3)) else (bif decide (x12 ≥ (0 : Int)) then (((0 : Int) ≤ (h2.getD x48.toNat d72).snd.fst) ∧ (((h2.getD x48.toNat d72).snd.fst < (↑(List.length (h2.getD x48.toNat d72).fst) : Int)) ∧ (((0 : Int) ≤ List.getD (h2.getD x48.toNat d72).fst (Int.toNat (h2.getD x48.toNat d72).snd.fst) (0 : Int)) ∧ ((List.getD (h2.getD x48.toNat d72).fst (Int.toNat (h2.getD x48.toNat d72).snd.fst) (0 : Int) < (↑x0.length : Int)) ∧ (bif decide ((x0.getD (Int.toNat (List.getD (h2.getD x48.toNat d72).fst (Int.toNat (h2.getD x48.toNat d72).snd.fst) (0 : Int))) d30).snd.snd.snd.snd.snd.fst > x12) then N (st17 (x0, n6, x8, n11, x12, x13, n46, x47, IntKind.i64.wrap (x48 + (1 : Int)), h0, h1, h2, h3)) else (bif decide (x13 < (0 : Int)) then N (st17 (x0, n6, x8, n11, x12, x48, n46, x47, IntKind.i64.wrap (x48 + (1 : Int)), h0, h1, h2, h3)) else (((0 : Int) ≤ (h2.getD x48.toNat d72).snd.fst) ∧ (((h2.getD x48.toNat d72).snd.fst < (↑(List.length (h2.getD x48.toNat d72).fst) : Int)) ∧ (((0 : Int) ≤ x13) ∧ ((x13 < (↑n6 : Int)) ∧ ((x13.toNat < h2.length) ∧ (((0 : Int) ≤ x13) ∧ ((x13 < (↑n6 : Int)) ∧ ((x13.toNat < h2.length) ∧ (((0 : Int) ≤ (h2.getD x13.toNat d72).snd.fst) ∧ (((h2.getD x13.toNat d72).snd.fst < (↑(List.length (h2.getD x13.toNat d72).fst) : Int)) ∧ (bif decide (List.getD (h2.getD x48.toNat d72).fst (Int.toNat (h2.getD x48.toNat d72).snd.fst) (0 : Int) < List.getD (h2.getD x13.toNat d72).fst (Int.toNat (h2.getD x13.toNat d72).snd.fst) (0 : Int)) then N (st17 (x0, n6, x8, n11, x12, x48, n46, x47, IntKind.i64.wrap (x48 + (1 : Int)), h0, h1, h2, h3)) else N (st17 (x0, n6, x8, n11, x12, x13, n46, x47, IntKind.i64.wrap (x48 + (1 : Int)), h0, h1, h2, h3))))))))))))))))))) else (bif decide (x13 < (0 : Int)) then N (st17 (x0, n6, x8, n11, x12, x48, n46, x47, IntKind.i64.wrap (x48 + (1 : Int)), h0, h1, h2, h3)) else (((0 : Int) ≤ (h2.getD x48.toNat d72).snd.fst) ∧ (((h2.getD x48.toNat d72).snd.fst < (↑(List.length (h2.getD x48.toNat d72).fst) : Int)) ∧ (((0 : Int) ≤ x13) ∧ ((x13 < (↑n6 : Int)) ∧ ((x13.toNat < h2.length) ∧ (((0 : Int) ≤ x13) ∧ ((x13 < (↑n6 : Int)) ∧ ((x13.toNat < h2.length) ∧ (((0 : Int) ≤ (h2.getD x13.toNat d72).snd.fst) ∧ (((h2.getD x13.toNat d72).snd.fst < (↑(List.length (h2.getD x13.toNat d72).fst) : Int)) ∧ (bif decide (List.getD (h2.getD x48.toNat d72).fst (Int.toNat (h2.getD x48.toNat d72).snd.fst) (0 : Int) < List.getD (h2.getD x13.toNat d72).fst (Int.toNat (h2.getD x13.toNat d72).snd.fst) (0 : Int)) then N (st17 (x0, n6, x8, n11, x12, x48, n46, x47, IntKind.i64.wrap (x48 + (1 : Int)), h0, h1, h2, h3)) else N (st17 (x0, n6, x8, n11, x12, x13, n46, x47, IntKind.i64.wrap (x48 + (1 : Int)), h0, h1, h2, h3))))))))))))))))))) else X 4 (s3 (x0) (n6) (x8) (n11) (x13) (h0) (h1) (h2) (h3)))
theorem round17 (x0 : (List D30)) (n6 : Nat) (x8 : Int) (n11 : Nat) (x12 : Int) (x13 : Int) (n46 : Nat) (x47 : Int) (x48 : Int) (h0 : (List Int)) (h1 : (List (Int × Int))) (h2 : (List D72)) (h3 : (List Int)) (N : St → Prop) (X : Nat → St → Prop) (R : St → Prop) : exec C callF body17 ⟨0, [4, 4], fun s' => cond (Nat.ble 4 s'.H.length) (N (scrub keep17 4 s')) False, X, R⟩ (st17 (x0, n6, x8, n11, x12, x13, n46, x47, x48, h0, h1, h2, h3)) = Round17 x0 n6 x8 n11 x12 x13 n46 x47 x48 h0 h1 h2 h3 N X R := by kernel_rfl
noncomputable def Main (calls : (List D30)) (orders : (List (List Int))) (k : AV → Prop) : Prop :=
  ((C.F31.Pre calls) ∧ (bif !C.F31.val calls then k (.tup [⟨(.sl (.int .i64)), ([])⟩, ⟨(.int .i64), ((140 : Int))⟩]) else (F32.stA (calls, orders) = F32.stA (calls, orders) ∧ ((calls.length ≤ LB) ∧ ((orders.length ≤ LB) ∧ ((∀ (o : List Int), o ∈ orders → o.length ≤ LB) ∧ (bif F32.okL calls orders then (∀ q3 : List Int, (∀ q4 : List (Int × Int), (st8 (calls, orders.length, (0 : Int), orders.length, (↑orders.length : Int), (0 : Int), q3, q4, List.map ln0 orders) = st8 (calls, orders.length, (0 : Int), orders.length, (↑orders.length : Int), (0 : Int), q3, q4, List.map ln0 orders) ∧ (((0 : Int) ≤ (0 : Int)) ∧ (((0 : Int) ≤ (↑(List.map ln0 orders).length : Int)) ∧ (((List.map ln0 orders).length ≤ LB) ∧ ((orders.length = (List.map ln0 orders).length) ∧ (((↑orders.length : Int) = (↑(List.map ln0 orders).length : Int)) ∧ (((0 : Int) ≤ (0 : Int)) ∧ (((0 : Int) + sm (List.map ln0 orders) ≤ (↑LB : Int)) ∧ (st13 (calls, orders.length, (0 : Int) + sm (List.map ln0 orders), (0 : Nat), q3, q4, List.map ln0 orders, []) = st13 (calls, orders.length, (0 : Int) + sm (List.map ln0 orders), (0 : Nat), q3, q4, List.map ln0 orders, []) ∧ (((0 : Nat) = (0 : Nat)) ∧ (((↑(0 : Nat) : Int) ≤ (0 : Int) + sm (List.map ln0 orders)) ∧ (((0 : Int) + sm (List.map ln0 orders) ≤ (↑LB : Int)) ∧ (((List.map ln0 orders).length ≤ LB) ∧ ((orders.length = (List.map ln0 orders).length) ∧ ((LOK calls (List.map ln0 orders)) ∧ (bif (mg calls (((0 : Int) + sm (List.map ln0 orders)).toNat - (0 : Nat)) (List.map ln0 orders) []).fst then (∀ q5 : List Int, (∀ q6 : List (Int × Int), (∀ q7 : List D72, (((0 : Nat) + (mg calls (((0 : Int) + sm (List.map ln0 orders)).toNat - (0 : Nat)) (List.map ln0 orders) []).snd.length ≤ (mg calls (((0 : Int) + sm (List.map ln0 orders)).toNat - (0 : Nat)) (List.map ln0 orders) []).snd.length) ∧ k (.tup [⟨(.sl (.int .i64)), (List.take (mg calls (((0 : Int) + sm (List.map ln0 orders)).toNat - (0 : Nat)) (List.map ln0 orders) []).snd.length (mg calls (((0 : Int) + sm (List.map ln0 orders)).toNat - (0 : Nat)) (List.map ln0 orders) []).snd)⟩, ⟨(.int .i64), ((0 : Int))⟩]))))) else (∀ q5 : List Int, (∀ q6 : List (Int × Int), (∀ q7 : List D72, (∀ q8 : List Int, k (.tup [⟨(.sl (.int .i64)), ([])⟩, ⟨(.int .i64), ((142 : Int))⟩]))))))))))))))))))))))) else (∀ q3 : List Int, (∀ q4 : List (Int × Int), (∀ q5 : List D72, k (.tup [⟨(.sl (.int .i64)), ([])⟩, ⟨(.int .i64), ((142 : Int))⟩])))))))))))
theorem main (calls : (List D30)) (orders : (List (List Int))) (k : AV → Prop) : (runFn C callF Try.f14 [.v (.sl (.pair (.int .u8) (.pair (.int .u64) (.pair (.pair (.int .u8) (.pair (.int .u64) (.pair (.int .u64) (.pair (.sl (.int .u8)) (.pair (.sl (.int .u8)) (.pair .bool (.pair (.int .u8) .unit))))))) (.pair (.int .u8) (.pair (.sl (.int .u8)) (.pair (.int .i64) (.pair (.int .i64) .unit)))))))) calls, .v (.sl (.sl (.int .i64))) orders] [] (fun r H => coRes H [(.sl (.int .i64)), (.int .i64)] r k)) = Main calls orders k := by kernel_rfl
theorem loop8 (v : V8) (X : Nat → St → Prop) (R : St → Prop) : Q8 v X R → ∃ m, loopN C callF keep8 3 body8 ⟨0, [], fun _ => False, X, R⟩ m (st8 v) := by
  refine loop_ind (fun v => Q8 v X R) (fun (cs, n6, t, n, k, i, h, e, all) => all.length - i.toNat) ?_ v
  rintro ⟨cs, n6, t, n, k, i, h, e, all⟩ ⟨h0, h1, h2, rfl, rfl, h3, h5, h4⟩ N hN
  rw [round8]
  obtain ⟨j, rfl⟩ : ∃ a : Nat, i = a := ⟨i.toNat, by omega⟩
  dsimp only at hN
  rw [Int.toNat_natCast] at h4 h5
  have h2' : all.length ≤ 1073741824 := h2
  have hLB : (LB : Int) = 1073741824 := rfl
  refine bif_d (fun hj => ?_) (fun hj => ?_)
  · have hn : j < all.length := by omega
    have hs := sm_nn (all.drop (j + 1))
    rw [drop_cons hn d72, sm, ← Int.add_assoc] at h4 h5
    rw [Int.toNat_natCast, w64n (by omega)]
    refine ⟨by omega, by omega, hn, ?_⟩
    have e1 : IntKind.i64.wrap (t + ((List.length (all.getD j d72).fst : Nat) : Int)) = t + ((all.getD j d72).1.length : Int) := w64 (by omega) (by omega)
    rw [e1]
    exact hN (cs, n6, t + ((all.getD j d72).1.length : Int), all.length, (all.length : Int), ((j + 1 : Nat) : Int), h, e, all) ⟨by omega, by omega, h2, rfl, rfl, by omega, by rw [Int.toNat_natCast]; exact h5, by rw [Int.toNat_natCast]; exact h4⟩ (by dsimp only; omega)
  · rw [List.drop_eq_nil_of_le (by omega), sm, Int.add_zero] at h4
    exact h4
theorem loop17 (v : V17) (X : Nat → St → Prop) (R : St → Prop) : Q17 v X R → ∃ m, loopN C callF keep17 4 body17 ⟨0, [4], fun _ => False, X, R⟩ m (st17 v) := by
  refine loop_ind (fun v => Q17 v X R) (fun (cs, n6, t, n11, m, b, n, k, i, h, e, all, out) => all.length - i.toNat) ?_ v
  rintro ⟨cs, n6, t, n11, m, b, n, k, i, h, e, all, out⟩ ⟨h0, h1, h2, rfl, rfl, rfl, hL, hb, h4⟩ N hN
  rw [round17]
  obtain ⟨j, rfl⟩ : ∃ a : Nat, i = a := ⟨i.toNat, by omega⟩
  dsimp only at hN
  rw [Int.toNat_natCast] at h4
  have h2' : all.length ≤ 1073741824 := h2
  refine bif_d (fun hj => ?_) (fun hj => ?_)
  · have hn : j < all.length := by omega
    rw [F36.range_cons hn, bst] at h4
    rw [Int.toNat_natCast, w64n (by omega)]
    obtain ⟨g1, g2, g3, g4⟩ := hL _ (C.F9.getD_mem hn d72)
    have next : ∀ b' : Int, (b' < 0 ∨ 0 ≤ b' ∧ b' < all.length ∧ (all.getD b'.toNat d72).2.1 < (all.getD b'.toNat d72).1.length) → X 4 (s3 cs all.length t n11 (bst cs all m (List.range' (j + 1) (all.length - (j + 1))) b') h e all out) → N (st17 (cs, all.length, t, n11, m, b', all.length, (all.length : Int), ((j + 1 : Nat) : Int), h, e, all, out)) := fun b' hb' x =>
      hN (cs, all.length, t, n11, m, b', all.length, (all.length : Int), ((j + 1 : Nat) : Int), h, e, all, out) ⟨by omega, by omega, h2, rfl, rfl, rfl, hL, hb', by rw [Int.toNat_natCast]; exact x⟩ (by dsimp only; omega)
    refine ⟨by omega, by omega, hn, bif_i (fun x => ?_) (fun x => ?_)⟩
    · rw [x, cond_true] at h4; exact next _ hb h4
    rw [x, cond_false] at h4
    have hlt : (all.getD j d72).2.1 < (all.getD j d72).1.length := by
      rw [beq_eq_false_iff_ne] at x; omega
    have hhd : hd (all.getD j d72) ∈ (all.getD j d72).1 := C.F9.getD_mem (by omega) 0
    obtain ⟨k1, k2⟩ := g4 _ hhd
    have hnew : (((j : Nat) : Int) < 0 ∨ 0 ≤ ((j : Nat) : Int) ∧ ((j : Nat) : Int) < all.length ∧ (all.getD ((j : Nat) : Int).toNat d72).2.1 < (all.getD ((j : Nat) : Int).toNat d72).1.length) := .inr ⟨by omega, by omega, by rw [Int.toNat_natCast]; exact hlt⟩
    have tail : ∀ (A : Prop), X 4 (s3 cs all.length t n11 (bst cs all m (List.range' (j + 1) (all.length - (j + 1))) (bif decide (b < 0) then (j : Int) else bif decide (hd (all.getD j d72) < hd (all.getD b.toNat d72)) then (j : Int) else b)) h e all out) →
        (bif decide (b < 0) then N (st17 (cs, all.length, t, n11, m, (j : Int), all.length, (all.length : Int), ((j + 1 : Nat) : Int), h, e, all, out)) else
          (0 ≤ (all.getD j d72).snd.fst) ∧ ((all.getD j d72).snd.fst < ((List.length (all.getD j d72).fst : Nat) : Int)) ∧ (0 ≤ b) ∧ (b < (all.length : Int)) ∧ (b.toNat < all.length) ∧ (0 ≤ b) ∧ (b < (all.length : Int)) ∧ (b.toNat < all.length) ∧ (0 ≤ (all.getD b.toNat d72).snd.fst) ∧ ((all.getD b.toNat d72).snd.fst < ((List.length (all.getD b.toNat d72).fst : Nat) : Int)) ∧
          (bif decide (hd (all.getD j d72) < hd (all.getD b.toNat d72)) then N (st17 (cs, all.length, t, n11, m, (j : Int), all.length, (all.length : Int), ((j + 1 : Nat) : Int), h, e, all, out)) else N (st17 (cs, all.length, t, n11, m, b, all.length, (all.length : Int), ((j + 1 : Nat) : Int), h, e, all, out)))) := fun _ h4 => by
      refine bif_d (fun y => ?_) (fun y => ?_)
      · rw [decide_eq_true y, cond_true] at h4; exact next _ hnew h4
      · rw [decide_eq_false y, cond_false] at h4
        obtain ⟨b1, b2, b3⟩ : 0 ≤ b ∧ b < all.length ∧ (all.getD b.toNat d72).2.1 < (all.getD b.toNat d72).1.length := by
          rcases hb with hb | hb
          · exact absurd hb y
          · exact hb
        have hbl := hL _ (C.F9.getD_mem (show b.toNat < all.length by omega) d72)
        refine ⟨g1, hlt, b1, b2, by omega, b1, b2, by omega, hbl.1, b3, bif_d (fun z => ?_) (fun z => ?_)⟩
        · rw [decide_eq_true z, cond_true] at h4; exact next _ hnew h4
        · rw [decide_eq_false z, cond_false] at h4; exact next _ hb h4
    refine bif_d (fun y => ⟨g1, hlt, k1, k2, bif_d (fun z => ?_) (fun z => ?_)⟩) (fun y => ?_)
    · rw [decide_eq_true y, decide_eq_true (show (cs.getD (hd (all.getD j d72)).toNat d30).2.2.2.2.2.1 > m from z), Bool.and_self, cond_true] at h4
      exact next _ hb h4
    · rw [decide_eq_true y, decide_eq_false (show ¬ (cs.getD (hd (all.getD j d72)).toNat d30).2.2.2.2.2.1 > m from z), Bool.and_false, cond_false] at h4
      exact tail True h4
    · rw [decide_eq_false y, Bool.false_and, cond_false] at h4
      exact tail True h4
  · rw [show all.length - j = 0 by omega] at h4
    exact h4
theorem bst_ok (cs : List D30) (all : List D72) (m : Int) : ∀ (r : List Nat) (b : Int), (∀ i ∈ r, i < all.length) → (b < 0 ∨ 0 ≤ b ∧ b < all.length ∧ (all.getD b.toNat d72).2.1 ≠ (all.getD b.toNat d72).1.length) →
    (bst cs all m r b < 0 ∨ 0 ≤ bst cs all m r b ∧ bst cs all m r b < all.length ∧ (all.getD (bst cs all m r b).toNat d72).2.1 ≠ (all.getD (bst cs all m r b).toNat d72).1.length)
  | [], b, _, h => h
  | i :: r, b, hr, h => by
    rw [bst]
    refine bst_ok cs all m r _ (fun j hj => hr j (List.mem_cons_of_mem _ hj)) ?_
    cases x : ((all.getD i d72).2.1 == ((all.getD i d72).1.length : Int)) with
    | true => rw [cond_true]; exact h
    | false =>
      rw [cond_false]
      rw [beq_eq_false_iff_ne] at x
      have hi := hr i (List.mem_cons_self ..)
      have new : (((i : Nat) : Int) < 0 ∨ 0 ≤ ((i : Nat) : Int) ∧ ((i : Nat) : Int) < all.length ∧ (all.getD ((i : Nat) : Int).toNat d72).2.1 ≠ (all.getD ((i : Nat) : Int).toNat d72).1.length) := .inr ⟨by omega, by omega, by rw [Int.toNat_natCast]; exact x⟩
      cases decide (m ≥ 0) && decide ((cs.getD (hd (all.getD i d72)).toNat d30).2.2.2.2.2.1 > m) with
      | true => exact h
      | false =>
        cases decide (b < 0) with
        | true => exact new
        | false =>
          cases decide (hd (all.getD i d72) < hd (all.getD b.toNat d72)) with
          | true => exact new
          | false => exact h
theorem loop13 (v : V13) (X : Nat → St → Prop) (R : St → Prop) : Q13 v X R → ∃ m, loopN C callF keep13 4 body13 ⟨0, [], fun _ => False, X, R⟩ m (st13 v) := by
  refine loop_ind (fun v => Q13 v X R) (fun (cs, n6, t, n11, h, e, all, out) => t.toNat - out.length) ?_ v
  rintro ⟨cs, n6, t, n11, h, e, all, out⟩ ⟨rfl, h1, h2, h3, rfl, hL, h4⟩ N hN
  rw [round13]
  dsimp only at hN
  have hLB : (LB : Int) = 1073741824 := rfl
  have h3' : all.length ≤ 1073741824 := h3
  refine bif_d (fun hj => ?_) (fun hj => ?_)
  · obtain ⟨f, hf⟩ : ∃ f, t.toNat - out.length = f + 1 := ⟨t.toNat - out.length - 1, by omega⟩
    rw [hf, mg] at h4
    rw [List.take_length, show Int.toNat (0 : Int) = 0 from rfl, Nat.sub_zero]
    refine ⟨by omega, h3, hL, rfl, by omega, by omega, h3, rfl, rfl, rfl, hL, .inl (by decide), ?_⟩
    have hb := bst_ok cs all (mnA cs all (-1)) (List.range' 0 all.length) (-1) (fun i hi => by rw [List.mem_range'_1] at hi; omega) (.inl (by decide))
    generalize bst cs all (mnA cs all (-1)) (List.range' 0 all.length) (-1) = b at h4 hb ⊢
    refine bif_d (fun x => ?_) (fun x => ?_)
    · rw [decide_eq_true x, cond_true] at h4
      exact h4 _ _ _ _
    · rw [decide_eq_false x, cond_false] at h4
      obtain ⟨b1, b2, b3⟩ : 0 ≤ b ∧ b < all.length ∧ (all.getD b.toNat d72).2.1 ≠ (all.getD b.toNat d72).1.length := by
        rcases hb with hb | hb
        · exact absurd hb x
        · exact hb
      obtain ⟨g1, g2, g3, g4⟩ := hL _ (C.F9.getD_mem (show b.toNat < all.length by omega) d72)
      have hlt : (all.getD b.toNat d72).2.1 < (all.getD b.toNat d72).1.length := by omega
      have g3' : (all.getD b.toNat d72).1.length ≤ 1073741824 := g3
      have e1 : IntKind.i64.wrap ((all.getD b.toNat d72).2.1 + 1) = (all.getD b.toNat d72).2.1 + 1 := w64 (by omega) (by omega)
      have hNN := hN (cs, all.length, t, out.length + 1, h, e, all.set b.toNat ((all.getD b.toNat d72).1, (all.getD b.toNat d72).2.1 + 1, ()), out ++ [hd (all.getD b.toNat d72)])
        ⟨by simp, by rw [List.length_append, List.length_singleton]; omega, h2, by rw [List.length_set]; exact h3, by rw [List.length_set], fun l hl => ?_, by
          rw [show t.toNat - (out ++ [hd (all.getD b.toNat d72)]).length = f by rw [List.length_append, List.length_singleton]; omega]; exact h4⟩ (by dsimp only; rw [List.length_append, List.length_singleton]; omega)
      · rw [e1, List.take_length]
        exact ⟨b1, b2, by omega, b1, b2, by omega, g1, hlt, Nat.le_refl _, by omega, by decide, b1, b2, by omega, b1, b2, by omega, hNN⟩
      · rcases List.mem_or_eq_of_mem_set hl with hl | rfl
        · exact hL l hl
        · exact ⟨by dsimp only; omega, by dsimp only; omega, g3, g4⟩
  · rw [show t.toNat - out.length = 0 by omega, mg, cond_true] at h4
    exact h4 h e all
/-- The program's answer. -/
def val (cs : List D30) (orders : List (List Int)) : List Int × Int := bif C.F31.val cs then (bif N.F32.okL cs orders then
    (bif (mg cs (sm (orders.map ln0)).toNat (orders.map ln0) []).1 then ((mg cs (sm (orders.map ln0)).toNat (orders.map ln0) []).2, 0) else ([], 142)) else ([], 142)) else ([], 140)
theorem spec (cs : List D30) (orders : List (List Int)) (k : AV → Prop) (h : AllP [cs.length ≤ LB, orders.length ≤ LB, ∀ o ∈ orders, o.length ≤ LB, sm (orders.map ln0) ≤ (LB : Int), N.F32.okL cs orders = true → LOK cs (orders.map ln0)]) (hk : k (.tup [⟨.sl (.int .i64), (val cs orders).1⟩, ⟨.int .i64, (val cs orders).2⟩])) : Main cs orders k := by
  obtain ⟨hc, ho, hm, hs, hL, _⟩ := h
  have hn := sm_nn (orders.map ln0)
  unfold val at hk
  refine ⟨hc, bif_i (fun x => ?_) (fun x => ⟨rfl, hc, ho, hm, ?_⟩)⟩
  · rw [show C.F31.val cs = false by simpa using x, cond_false] at hk; exact hk
  rw [show C.F31.val cs = true by simpa using x, cond_true] at hk
  refine bif_i (fun y => fun h e => ?_) (fun y => fun _ _ _ => ?_)
  · rw [y, cond_true] at hk
    rw [Int.zero_add]
    refine ⟨rfl, by omega, by omega, by rw [List.length_map]; exact ho, by rw [List.length_map], by rw [List.length_map], by omega, hs, rfl, rfl, by omega, hs, by rw [List.length_map]; exact ho, by rw [List.length_map], hL y, ?_⟩
    rw [Nat.sub_zero]
    refine bif_i (fun z => fun _ _ _ => ⟨by omega, ?_⟩) (fun z => fun _ _ _ _ => ?_)
    · rw [z, cond_true] at hk
      rw [List.take_length]
      exact hk
    · rw [z, cond_false] at hk
      exact hk
  · rw [y, cond_false] at hk
    exact hk
noncomputable def ts : List Ty := [(.sl T30), (.sl (.sl (.int .i64)))]
noncomputable def G : List AV → PV := pg2 (.sl T30) (.sl (.sl (.int .i64))) (fun calls orders => [calls.length ≤ LB, orders.length ≤ LB, ∀ o ∈ orders, o.length ≤ LB, sm (orders.map ln0) ≤ (LB : Int), N.F32.okL calls orders = true → LOK calls (orders.map ln0)]) (fun calls orders => .tup [⟨.sl (.int .i64), (val calls orders).1⟩, ⟨.int .i64, (val calls orders).2⟩])
theorem loopsOK : LoopsOK C callF (bodyOf Try.f14) := loopsOK_seek (tbl := loops) (fun _ => rfl) (by kernel_rfl) (List.forall_mem_cons.2 ⟨mkL_ok loop8, List.forall_mem_cons.2 ⟨mkL_ok loop13, List.forall_mem_cons.2 ⟨mkL_ok loop17, fun _ h => nomatch h⟩⟩⟩)
theorem pursOK : ∀ g ts F, C.pur g = some (ts, F) → SoundP Try.prog g F := purOf_ok (l := purs) (List.forall_mem_cons.2 ⟨Go.Proofs.Ytdjdbjcapenjeaa.C.F31.ok, List.forall_mem_cons.2 ⟨Go.Proofs.Ytdjdbjcapenjeaa.M.F33.ok, fun _ h => nomatch h⟩⟩)
theorem cfsOK : ∀ g, SoundF Try.prog g (callF g) := callsOK (l := [(32, Go.Proofs.Ytdjdbjcapenjeaa.N.F32.cf)]) (List.forall_mem_cons.2 ⟨Go.Proofs.Ytdjdbjcapenjeaa.N.F32.ok, fun _ h => nomatch h⟩)
theorem ok : SoundP Try.prog 14 G := by
  unfold G
  refine soundP_pg2 (soundF_run (C := C) (callF := callF) (tabOK C rfl rfl rfl) cfsOK pursOK Try.func14 (by kernel_rfl) loopsOK) [(.sl (.int .i64)), (.int .i64)] fun calls orders h => ?_
  rw [main]
  exact spec calls orders _ h rfl
end F14

end Go.Proofs.Ytdjdbjcapenjeaa.O
