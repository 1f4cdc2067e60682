/- the document's order of one key's calls -/
import Derived.Test.YtdjdbjcapenjeaaDxTab
import Derived.Test.YtdjdbjcapenjeaaDx3
import Derived.Test.YtdjdbjcapenjeaaDxTy
import Derived.Test.YtdjdbjcapenjeaaKF
import Derived.Test.YtdjdbjcapenjeaaKE
set_option linter.unusedVariables false
set_option maxRecDepth 100000
open Go Go.Proofs Go.Proofs.Ytdjdbjcapenjeaa.Dx Go.Proofs.Ytdjdbjcapenjeaa.Dx.TYtdjdbjcapenjeaa
namespace Go.Proofs.Ytdjdbjcapenjeaa.KG
open KE KF KF.F56
/-- How far the order is: the set, the value's number, the table, the order. -/
abbrev S4 := Int × Int × List Int × List Int
def pk (cs : List D30) (set s : Int) : List Nat → List Int → List Int → S4
  | [], tb, od => (set, s, tb, od)
  | i :: l, tb, od => bif (nxV cs set s i).1 then
      bif (fnd 40 cs (addS set i) (nxV cs set s i).2 tb).1 then (addS set i, (nxV cs set s i).2, (fnd 40 cs (addS set i) (nxV cs set s i).2 tb).2, od ++ [(i : Int)]) else pk cs set s l (fnd 40 cs (addS set i) (nxV cs set s i).2 tb).2 od
    else pk cs set s l tb od
def okpk (cs : List D30) (set s : Int) : List Nat → List Int → List Int → Prop
  | [], _, _ => True
  | i :: l, tb, od => nxP cs set s i ∧ bif (nxV cs set s i).1 then
      (okF 40 cs (addS set i) (nxV cs set s i).2 tb ∧ (fnd 40 cs (addS set i) (nxV cs set s i).2 tb).2.length = tb.length ∧ bif (fnd 40 cs (addS set i) (nxV cs set s i).2 tb).1 then True else okpk cs set s l (fnd 40 cs (addS set i) (nxV cs set s i).2 tb).2 od)
    else okpk cs set s l tb od
abbrev pkA (cs : List D30) (x : S4) : S4 := pk cs x.1 x.2.1 (List.range' 0 cs.length) x.2.2.1 x.2.2.2
def rd (cs : List D30) : Nat → S4 → S4
  | 0, x => x
  | f + 1, x => bif F57.val (cs, [], ()) x.1 then x else rd cs f (pkA cs x)
def okrd (cs : List D30) : Nat → S4 → Prop
  | 0, x => F57.val (cs, [], ()) x.1 = true
  | f + 1, x => bif F57.val (cs, [], ()) x.1 then True else
      (okpk cs x.1 x.2.1 (List.range' 0 cs.length) x.2.2.1 x.2.2.2 ∧ (pkA cs x).2.2.2.length = x.2.2.2.length + 1 ∧ (pkA cs x).2.2.1.length = x.2.2.1.length ∧ okrd cs f (pkA cs x))
namespace F44
abbrev V7 := (List D30) × Nat × Int × Int × (List Int) × (List D30) × Nat × (List Int)
noncomputable def st7 (v : V7) : St := ⟨[.v (.sl T30) (v.1), .dead, .dead, .dead, .v .ref (.ptr 1 []), .v .ref (.sl 2 0 (v.2.1)), .v (.int .i64) (v.2.2.1), .v (.int .i64) (v.2.2.2.1), .dead, .dead, .dead, .dead, .dead, .dead, .dead, .dead, .dead, .dead, .dead, .dead, .dead, .dead, .dead, .dead, .dead, .dead, .dead, .dead, .dead, .dead, .dead, .dead, .dead, .dead, .dead, .dead, .dead, .dead, .dead, .dead, .dead, .dead, .dead, .dead, .dead, .dead, .dead, .dead, .dead, .dead, .dead, .dead, .dead, .dead, .dead, .dead, .dead, .dead, .dead, .dead, .dead, .dead], [.row (.int .u8) (v.2.2.2.2.1) 5, .var (.pair (.sl T30) (.pair .ref .unit)) ((v.2.2.2.2.2.1), ((.sl 0 0 (v.2.2.2.2.2.2.1)), ())) 103, .row (.int .i64) (v.2.2.2.2.2.2.2) 3]⟩
noncomputable def dec7 (s : St) : Option V7 := match gV (.sl T30) (s.T.getD 0 .dead), gV .ref (s.T.getD 5 .dead), gV (.int .i64) (s.T.getD 6 .dead), gV (.int .i64) (s.T.getD 7 .dead), gRow (.int .u8) s.H[0]?, gVar (.pair (.sl T30) (.pair .ref .unit)) s.H[1]?, gRow (.int .i64) s.H[2]? with | some a0, some a5, some a6, some a7, some b0, some b1, some b2 => some (a0, rN (a5), a6, a7, b0, (b1).1, rN (((b1).2).1), b2) | _, _, _, _, _, _, _ => none
noncomputable def keep7 : List Nat := [0, 4, 5, 6, 7]
noncomputable def body7 : Code := bodyAt (loopsOf (bodyOf Try.f44)) 7
abbrev V9 := (List D30) × Nat × Int × Int × Int × (List Int) × (List D30) × Nat × (List Int)
noncomputable def st9 (v : V9) : St := ⟨[.v (.sl T30) (v.1), .dead, .dead, .dead, .v .ref (.ptr 1 []), .v .ref (.sl 2 0 (v.2.1)), .v (.int .i64) (v.2.2.1), .v (.int .i64) (v.2.2.2.1), .v (.int .i64) (v.2.2.2.2.1), .dead, .dead, .dead, .dead, .dead, .dead, .dead, .dead, .dead, .dead, .dead, .dead, .dead, .dead, .dead, .dead, .dead, .dead, .dead, .dead, .dead, .dead, .dead, .dead, .dead, .dead, .dead, .dead, .dead, .dead, .dead, .dead, .dead, .dead, .dead, .dead, .dead, .dead, .dead, .dead, .dead, .dead, .dead, .dead, .dead, .dead, .dead, .dead, .dead, .dead, .dead, .dead, .dead], [.row (.int .u8) (v.2.2.2.2.2.1) 5, .var (.pair (.sl T30) (.pair .ref .unit)) ((v.2.2.2.2.2.2.1), ((.sl 0 0 (v.2.2.2.2.2.2.2.1)), ())) 103, .row (.int .i64) (v.2.2.2.2.2.2.2.2) 3]⟩
noncomputable def dec9 (s : St) : Option V9 := match gV (.sl T30) (s.T.getD 0 .dead), gV .ref (s.T.getD 5 .dead), gV (.int .i64) (s.T.getD 6 .dead), gV (.int .i64) (s.T.getD 7 .dead), gV (.int .i64) (s.T.getD 8 .dead), gRow (.int .u8) s.H[0]?, gVar (.pair (.sl T30) (.pair .ref .unit)) s.H[1]?, gRow (.int .i64) s.H[2]? with | some a0, some a5, some a6, some a7, some a8, some b0, some b1, some b2 => some (a0, rN (a5), a6, a7, a8, b0, (b1).1, rN (((b1).2).1), b2) | _, _, _, _, _, _, _, _ => none
noncomputable def keep9 : List Nat := [0, 4, 5, 6, 7, 8]
noncomputable def body9 : Code := bodyAt (loopsOf (bodyOf Try.f44)) 9
noncomputable def s0 (n5 : Nat) (h0 : (List Int)) (h1_0 : (List D30)) (n1_1 : Nat) (h2 : (List Int)) : St := ⟨[.dead, .dead, .dead, .dead, .dead, .v .ref (.sl 2 0 n5), .dead, .dead, .dead, .dead, .dead, .dead, .dead, .dead, .dead, .dead, .dead, .dead, .dead, .dead, .dead, .dead, .dead, .dead, .dead, .dead, .dead, .dead, .dead, .dead, .dead, .dead, .dead, .dead, .dead, .dead, .dead, .dead, .dead, .dead, .dead, .dead, .dead, .dead, .dead, .dead, .dead, .dead, .dead, .dead, .dead, .dead, .dead, .dead, .dead, .dead, .dead, .dead, .dead, .dead, .dead, .dead], [.row (.int .u8) h0 5, .var (.pair (.sl T30) (.pair .ref .unit)) (h1_0, ((.sl 0 0 n1_1), ())) 103, .row (.int .i64) h2 3]⟩
noncomputable def s1 (x0 : (List D30)) (n5 : Nat) (x6 : Int) (x7 : Int) (h0 : (List Int)) (h1_0 : (List D30)) (n1_1 : Nat) (h2 : (List Int)) : St := ⟨[.v (.sl T30) x0, .dead, .dead, .dead, .v .ref (.ptr 1 []), .v .ref (.sl 2 0 n5), .v (.int .i64) x6, .v (.int .i64) x7, .dead, .dead, .dead, .dead, .dead, .dead, .dead, .dead, .dead, .dead, .dead, .dead, .dead, .dead, .dead, .dead, .dead, .dead, .dead, .dead, .dead, .dead, .dead, .dead, .dead, .dead, .dead, .dead, .dead, .dead, .dead, .dead, .dead, .dead, .dead, .dead, .dead, .dead, .dead, .dead, .dead, .dead, .dead, .dead, .dead, .dead, .dead, .dead, .dead, .dead, .dead, .dead, .dead, .dead], [.row (.int .u8) h0 5, .var (.pair (.sl T30) (.pair .ref .unit)) (h1_0, ((.sl 0 0 n1_1), ())) 103, .row (.int .i64) h2 3]⟩
def Q9 : V9 → (Nat → St → Prop) → (St → Prop) → Prop := fun (cs, no, set, s, i, tb, cs', nt, od) X R => cs' = cs ∧ 0 ≤ i ∧ i ≤ cs.length ∧ cs.length ≤ LB ∧ no = od.length ∧ nt = tb.length ∧ od.length < 40 ∧
  okpk cs set s (List.range' i.toNat (cs.length - i.toNat)) tb od ∧
  ∀ r : S4, r = pk cs set s (List.range' i.toNat (cs.length - i.toNat)) tb od → X 2 (s1 cs r.2.2.2.length r.1 r.2.1 r.2.2.1 cs nt r.2.2.2)
def Q7 : V7 → (Nat → St → Prop) → (St → Prop) → Prop := fun (cs, no, set, s, tb, cs', nt, od) X R => cs' = cs ∧ cs.length ≤ LB ∧ no = od.length ∧ nt = tb.length ∧ od.length ≤ 40 ∧
  okrd cs (40 - od.length) (set, s, tb, od) ∧ ∀ r : S4, r = rd cs (40 - od.length) (set, s, tb, od) → X 0 (s0 r.2.2.2.length r.2.2.1 cs nt r.2.2.2)
noncomputable def purs : List (Nat × (List Ty × (List AV → PV))) := [(57, (Go.Proofs.Ytdjdbjcapenjeaa.KE.F57.ts, Go.Proofs.Ytdjdbjcapenjeaa.KE.F57.G)), (58, (Go.Proofs.Ytdjdbjcapenjeaa.KE.F58.ts, Go.Proofs.Ytdjdbjcapenjeaa.KE.F58.G))]
noncomputable def callF (g : FuncId) : CF := match seek [(56, Go.Proofs.Ytdjdbjcapenjeaa.KF.F56.cf)] g with | some F => F | none => fun _ _ _ => False
noncomputable def L7 : K → Nat → St → Prop := mkL dec7 st7 0 3 [] Q7
noncomputable def L9 : K → Nat → St → Prop := mkL dec9 st9 0 3 [3] Q9
noncomputable def loops : List (Nat × (List Nat × (K → Nat → St → Prop))) := [(7, (keep7, L7)), (9, (keep9, L9))]
noncomputable def C : Ctx := { ti := ti, meth := meth, can := can, pur := purOf purs, loops := fun i => seek loops i, gh := fun _ => [], owns := fun i => seek [(5, ((.int .i64), 3))] i, xk := fun i => seek [(0, ([5], 0)), (2, ([0, 4, 5, 6, 7], 0))] i }
noncomputable def Round7 (x0 : (List D30)) (n5 : Nat) (x6 : Int) (x7 : Int) (h0 : (List Int)) (h1_0 : (List D30)) (n1_1 : Nat) (h2 : (List Int)) (N : St → Prop) (X : Nat → St → Prop) (R : St → Prop) : Prop :=
  (((0 : Nat) + n1_1 ≤ h0.length) ∧ ((F57.Pre (h1_0, List.take n1_1 h0, ()) x6) ∧ (bif !F57.val (h1_0, List.take n1_1 h0, ()) x6 then (st9 (x0, n5, x6, x7, (0 : Int), h0, h1_0, n1_1, h2) = st9 (x0, n5, x6, x7, (0 : Int), h0, h1_0, n1_1, h2) ∧ ((h1_0 = x0) ∧ (((0 : Int) ≤ (0 : Int)) ∧ (((0 : Int) ≤ (↑x0.length : Int)) ∧ ((x0.length ≤ LB) ∧ ((n5 = h2.length) ∧ ((n1_1 = h0.length) ∧ ((h2.length < (40 : Nat)) ∧ ((okpk x0 x6 x7 (List.range' (Int.toNat (0 : Int)) (x0.length - Int.toNat (0 : Int))) h0 h2) ∧ (∀ q11 : S4, ((q11 = pk x0 x6 x7 (List.range' (Int.toNat (0 : Int)) (x0.length - Int.toNat (0 : Int))) h0 h2) → N (st7 (x0, q11.snd.snd.snd.length, q11.fst, q11.snd.fst, q11.snd.snd.fst, x0, n1_1, q11.snd.snd.snd))))))))))))) else X 0 (s0 (n5) (h0) (h1_0) (n1_1) (h2)))))
theorem round7 (x0 : (List D30)) (n5 : Nat) (x6 : Int) (x7 : Int) (h0 : (List Int)) (h1_0 : (List D30)) (n1_1 : Nat) (h2 : (List Int)) (N : St → Prop) (X : Nat → St → Prop) (R : St → Prop) : exec C callF body7 ⟨0, [3], fun s' => cond (Nat.ble 3 s'.H.length) (N (scrub keep7 3 s')) False, X, R⟩ (st7 (x0, n5, x6, x7, h0, h1_0, n1_1, h2)) = Round7 x0 n5 x6 x7 h0 h1_0 n1_1 h2 N X R := by kernel_rfl
noncomputable def Round9 (x0 : (List D30)) (n5 : Nat) (x6 : Int) (x7 : Int) (x8 : Int) (h0 : (List Int)) (h1_0 : (List D30)) (n1_1 : Nat) (h2 : (List Int)) (N : St → Prop) (X : Nat → St → Prop) (R : St → Prop) : Prop :=
  (bif decide (x8 < (↑x0.length : Int)) then (((0 : Nat) + n1_1 ≤ h0.length) ∧ ((F58.Pre (h1_0, List.take n1_1 h0, ()) x6 x7 x8) ∧ (bif (F58.val (h1_0, List.take n1_1 h0, ()) x6 x7 x8).fst then (((0 : Int) ≤ x8) ∧ (stA (IntKind.i64.wrap (x6 + IntKind.i64.wrap ((1 : Int) * (2 : Int) ^ min x8.toNat IntKind.i64.bits)), (F58.val (h1_0, List.take n1_1 h0, ()) x6 x7 x8).snd, h1_0, n1_1, h0) = stA (IntKind.i64.wrap (x6 + IntKind.i64.wrap ((1 : Int) * (2 : Int) ^ min x8.toNat IntKind.i64.bits)), (F58.val (h1_0, List.take n1_1 h0, ()) x6 x7 x8).snd, h1_0, n1_1, h0) ∧ ((n1_1 = h0.length) ∧ ((okF (40 : Nat) h1_0 (IntKind.i64.wrap (x6 + IntKind.i64.wrap ((1 : Int) * (2 : Int) ^ min x8.toNat IntKind.i64.bits))) (F58.val (h1_0, List.take n1_1 h0, ()) x6 x7 x8).snd h0) ∧ (bif (fnd (40 : Nat) h1_0 (IntKind.i64.wrap (x6 + IntKind.i64.wrap ((1 : Int) * (2 : Int) ^ min x8.toNat IntKind.i64.bits))) (F58.val (h1_0, List.take n1_1 h0, ()) x6 x7 x8).snd h0).fst then ((n5 ≤ h2.length) ∧ ((n5 + (1 : Nat) ≤ (8796093022208 : Nat)) ∧ (((0 : Nat) + (1 : Nat) ≤ (1 : Nat)) ∧ (((0 : Int) ≤ x8) ∧ X 2 (s1 (x0) (n5 + (1 : Nat)) (IntKind.i64.wrap (x6 + IntKind.i64.wrap ((1 : Int) * (2 : Int) ^ min x8.toNat IntKind.i64.bits))) ((F58.val (h1_0, List.take n1_1 h0, ()) x6 x7 x8).snd) ((fnd (40 : Nat) h1_0 (IntKind.i64.wrap (x6 + IntKind.i64.wrap ((1 : Int) * (2 : Int) ^ min x8.toNat IntKind.i64.bits))) (F58.val (h1_0, List.take n1_1 h0, ()) x6 x7 x8).snd h0).snd) (h1_0) (n1_1) (List.take n5 h2 ++ [x8])))))) else N (st9 (x0, n5, x6, x7, IntKind.i64.wrap (x8 + (1 : Int)), (fnd (40 : Nat) h1_0 (IntKind.i64.wrap (x6 + IntKind.i64.wrap ((1 : Int) * (2 : Int) ^ min x8.toNat IntKind.i64.bits))) (F58.val (h1_0, List.take n1_1 h0, ()) x6 x7 x8).snd h0).snd, h1_0, n1_1, h2))))))) else N (st9 (x0, n5, x6, x7, IntKind.i64.wrap (x8 + (1 : Int)), h0, h1_0, n1_1, h2))))) else X 2 (s1 (x0) (n5) (x6) (x7) (h0) (h1_0) (n1_1) (h2)))
theorem round9 (x0 : (List D30)) (n5 : Nat) (x6 : Int) (x7 : Int) (x8 : Int) (h0 : (List Int)) (h1_0 : (List D30)) (n1_1 : Nat) (h2 : (List Int)) (N : St → Prop) (X : Nat → St → Prop) (R : St → Prop) : exec C callF body9 ⟨0, [3, 3], fun s' => cond (Nat.ble 3 s'.H.length) (N (scrub keep9 3 s')) False, X, R⟩ (st9 (x0, n5, x6, x7, x8, h0, h1_0, n1_1, h2)) = Round9 x0 n5 x6 x7 x8 h0 h1_0 n1_1 h2 N X R := by kernel_rfl
noncomputable def Main (calls : (List D30)) (k : AV → Prop) : Prop :=
  (((0 : Int) ≤ (↑calls.length : Int)) ∧ ((IntKind.i64.wrap (IntKind.i64.wrap ((↑calls.length : Int) + (1 : Int)) * (2 : Int) ^ min (↑calls.length : Int).toNat IntKind.i64.bits) = IntKind.i64.wrap (IntKind.i64.wrap ((↑calls.length : Int) + (1 : Int)) * (2 : Int) ^ min (↑calls.length : Int).toNat IntKind.i64.bits)) ∧ (((0 : Int) ≤ IntKind.i64.wrap (IntKind.i64.wrap ((↑calls.length : Int) + (1 : Int)) * (2 : Int) ^ min (↑calls.length : Int).toNat IntKind.i64.bits)) ∧ ((IntKind.i64.wrap (IntKind.i64.wrap ((↑calls.length : Int) + (1 : Int)) * (2 : Int) ^ min (↑calls.length : Int).toNat IntKind.i64.bits) ≤ (↑(70368744177664 : Nat) : Int)) ∧ (stA ((0 : Int), (0 : Int), calls, (IntKind.i64.wrap (IntKind.i64.wrap ((↑calls.length : Int) + (1 : Int)) * (2 : Int) ^ min (↑calls.length : Int).toNat IntKind.i64.bits)).toNat, List.replicate (IntKind.i64.wrap (IntKind.i64.wrap ((↑calls.length : Int) + (1 : Int)) * (2 : Int) ^ min (↑calls.length : Int).toNat IntKind.i64.bits)).toNat (0 : Int)) = stA ((0 : Int), (0 : Int), calls, (IntKind.i64.wrap (IntKind.i64.wrap ((↑calls.length : Int) + (1 : Int)) * (2 : Int) ^ min (↑calls.length : Int).toNat IntKind.i64.bits)).toNat, List.replicate (IntKind.i64.wrap (IntKind.i64.wrap ((↑calls.length : Int) + (1 : Int)) * (2 : Int) ^ min (↑calls.length : Int).toNat IntKind.i64.bits)).toNat (0 : Int)) ∧ (((IntKind.i64.wrap (IntKind.i64.wrap ((↑calls.length : Int) + (1 : Int)) * (2 : Int) ^ min (↑calls.length : Int).toNat IntKind.i64.bits)).toNat = (List.replicate (IntKind.i64.wrap (IntKind.i64.wrap ((↑calls.length : Int) + (1 : Int)) * (2 : Int) ^ min (↑calls.length : Int).toNat IntKind.i64.bits)).toNat (0 : Int)).length) ∧ ((okF (40 : Nat) calls (0 : Int) (0 : Int) (List.replicate (IntKind.i64.wrap (IntKind.i64.wrap ((↑calls.length : Int) + (1 : Int)) * (2 : Int) ^ min (↑calls.length : Int).toNat IntKind.i64.bits)).toNat (0 : Int))) ∧ (bif !(fnd (40 : Nat) calls (0 : Int) (0 : Int) (List.replicate (IntKind.i64.wrap (IntKind.i64.wrap ((↑calls.length : Int) + (1 : Int)) * (2 : Int) ^ min (↑calls.length : Int).toNat IntKind.i64.bits)).toNat (0 : Int))).fst then k (.tup [⟨(.sl (.int .i64)), ([])⟩, ⟨.bool, (false)⟩]) else (st7 (calls, (0 : Nat), (0 : Int), (0 : Int), (fnd (40 : Nat) calls (0 : Int) (0 : Int) (List.replicate (IntKind.i64.wrap (IntKind.i64.wrap ((↑calls.length : Int) + (1 : Int)) * (2 : Int) ^ min (↑calls.length : Int).toNat IntKind.i64.bits)).toNat (0 : Int))).snd, calls, (IntKind.i64.wrap (IntKind.i64.wrap ((↑calls.length : Int) + (1 : Int)) * (2 : Int) ^ min (↑calls.length : Int).toNat IntKind.i64.bits)).toNat, []) = st7 (calls, (0 : Nat), (0 : Int), (0 : Int), (fnd (40 : Nat) calls (0 : Int) (0 : Int) (List.replicate (IntKind.i64.wrap (IntKind.i64.wrap ((↑calls.length : Int) + (1 : Int)) * (2 : Int) ^ min (↑calls.length : Int).toNat IntKind.i64.bits)).toNat (0 : Int))).snd, calls, (IntKind.i64.wrap (IntKind.i64.wrap ((↑calls.length : Int) + (1 : Int)) * (2 : Int) ^ min (↑calls.length : Int).toNat IntKind.i64.bits)).toNat, []) ∧ ((calls = calls) ∧ ((calls.length ≤ LB) ∧ (((0 : Nat) = (0 : Nat)) ∧ (((IntKind.i64.wrap (IntKind.i64.wrap ((↑calls.length : Int) + (1 : Int)) * (2 : Int) ^ min (↑calls.length : Int).toNat IntKind.i64.bits)).toNat = (fnd (40 : Nat) calls (0 : Int) (0 : Int) (List.replicate (IntKind.i64.wrap (IntKind.i64.wrap ((↑calls.length : Int) + (1 : Int)) * (2 : Int) ^ min (↑calls.length : Int).toNat IntKind.i64.bits)).toNat (0 : Int))).snd.length) ∧ (((0 : Nat) ≤ (40 : Nat)) ∧ ((okrd calls ((40 : Nat) - (0 : Nat)) ((0 : Int), (0 : Int), (fnd (40 : Nat) calls (0 : Int) (0 : Int) (List.replicate (IntKind.i64.wrap (IntKind.i64.wrap ((↑calls.length : Int) + (1 : Int)) * (2 : Int) ^ min (↑calls.length : Int).toNat IntKind.i64.bits)).toNat (0 : Int))).snd, [])) ∧ (∀ q2 : S4, ((q2 = rd calls ((40 : Nat) - (0 : Nat)) ((0 : Int), (0 : Int), (fnd (40 : Nat) calls (0 : Int) (0 : Int) (List.replicate (IntKind.i64.wrap (IntKind.i64.wrap ((↑calls.length : Int) + (1 : Int)) * (2 : Int) ^ min (↑calls.length : Int).toNat IntKind.i64.bits)).toNat (0 : Int))).snd, [])) → (((0 : Nat) + q2.snd.snd.snd.length ≤ q2.snd.snd.snd.length) ∧ k (.tup [⟨(.sl (.int .i64)), (List.take q2.snd.snd.snd.length q2.snd.snd.snd)⟩, ⟨.bool, (true)⟩])))))))))))))))))))
theorem main (calls : (List D30)) (k : AV → Prop) : (runFn C callF Try.f44 [.v (.sl (.pair (.int .u8) (.pair (.int .u64) (.pair (.pair (.int .u8) (.pair (.int .u64) (.pair (.int .u64) (.pair (.sl (.int .u8)) (.pair (.sl (.int .u8)) (.pair .bool (.pair (.int .u8) .unit))))))) (.pair (.int .u8) (.pair (.sl (.int .u8)) (.pair (.int .i64) (.pair (.int .i64) .unit)))))))) calls] [] (fun r H => coRes H [(.sl (.int .i64)), .bool] r k)) = Main calls k := by kernel_rfl
theorem loop9 (v : V9) (X : Nat → St → Prop) (R : St → Prop) : Q9 v X R → ∃ m, loopN C callF keep9 3 body9 ⟨0, [3], fun _ => False, X, R⟩ m (st9 v) := by
  refine loop_ind (fun v => Q9 v X R) (fun (cs, no, set, s, i, tb, cs', nt, od) => cs.length - i.toNat) ?_ v
  rintro ⟨cs, no, set, s, i, tb, cs', nt, od⟩ ⟨rfl, h0, h1, h2, rfl, rfl, h3, hk, h4⟩ N hN
  rw [round9]
  obtain ⟨j, rfl⟩ : ∃ a : Nat, i = a := ⟨i.toNat, by omega⟩
  dsimp only at hN
  rw [Int.toNat_natCast] at h4 hk
  have h2' : cs'.length ≤ 1073741824 := h2
  refine bif_d (fun hj => ?_) (fun hj => ?_)
  · have hn : j < cs'.length := by omega
    rw [range_cons hn, pk] at h4
    rw [range_cons hn, okpk] at hk
    obtain ⟨hp, hk⟩ := hk
    have next : ∀ t : List Int, t.length = tb.length → okpk cs' set s (List.range' (j + 1) (cs'.length - (j + 1))) t od → (∀ r : S4, r = pk cs' set s (List.range' (j + 1) (cs'.length - (j + 1))) t od → X 2 (s1 cs' r.2.2.2.length r.1 r.2.1 r.2.2.1 cs' tb.length r.2.2.2)) →
        N (st9 (cs', od.length, set, s, ((j + 1 : Nat) : Int), t, cs', tb.length, od)) := fun t e k q =>
      hN (cs', od.length, set, s, ((j + 1 : Nat) : Int), t, cs', tb.length, od) ⟨rfl, by omega, by omega, h2, rfl, e.symm, h3, by rw [Int.toNat_natCast]; exact k, by rw [Int.toNat_natCast]; exact q⟩ (by dsimp only; omega)
    rw [w64n (by omega)]
    refine ⟨by omega, hp, bif_i (fun e => ?_) (fun e => ?_)⟩
    · rw [show (nxV cs' set s (j : Int)).1 = true from e, cond_true] at h4 hk
      obtain ⟨k1, k2, k3⟩ := hk
      refine ⟨by omega, rfl, rfl, k1, bif_i (fun e2 => ⟨Nat.le_refl _, by omega, by decide, by omega, ?_⟩) (fun e2 => ?_)⟩
      · rw [show (fnd 40 cs' (addS set (j : Int)) (nxV cs' set s (j : Int)).2 tb).1 = true from e2, cond_true] at h4
        have h5 := h4 _ rfl
        dsimp only at h5
        rw [List.length_append, List.length_singleton] at h5
        have ht : List.take od.length od = od := List.take_length
        rw [ht]
        exact h5
      · rw [show (fnd 40 cs' (addS set (j : Int)) (nxV cs' set s (j : Int)).2 tb).1 = false from e2, cond_false] at h4 k3
        exact next _ k2 k3 h4
    · rw [show (nxV cs' set s (j : Int)).1 = false from e, cond_false] at h4 hk
      exact next _ rfl hk h4
  · rw [show cs'.length - j = 0 by omega, show List.range' j 0 = [] from rfl, pk] at h4
    exact h4 _ rfl
theorem loop7 (v : V7) (X : Nat → St → Prop) (R : St → Prop) : Q7 v X R → ∃ m, loopN C callF keep7 3 body7 ⟨0, [], fun _ => False, X, R⟩ m (st7 v) := by
  refine loop_ind (fun v => Q7 v X R) (fun (cs, no, set, s, tb, cs', nt, od) => 40 - od.length) ?_ v
  rintro ⟨cs, no, set, s, tb, cs', nt, od⟩ ⟨rfl, h2, rfl, rfl, h3, hk, h4⟩ N hN
  rw [round7]
  dsimp only at hN
  refine ⟨by omega, h2, bif_i (fun e => ?_) (fun e => ?_)⟩
  · have e' : F57.val (cs', [], ()) set = false := by
      have : F57.val (cs', List.take tb.length tb, ()) set = false := by simpa using e
      exact this
    rcases Nat.lt_or_ge od.length 40 with hlt | hge
    · rw [show 40 - od.length = (40 - (od.length + 1)) + 1 by omega] at hk h4
      rw [okrd, e', cond_false] at hk
      rw [rd, e', cond_false] at h4
      obtain ⟨k1, k2, k3, k4⟩ := hk
      refine ⟨rfl, rfl, Int.le_refl 0, by omega, h2, rfl, rfl, hlt, k1, fun q hq => ?_⟩
      have hq' : q = pkA cs' (set, s, tb, od) := hq
      subst hq'
      refine hN (cs', (pkA cs' (set, s, tb, od)).2.2.2.length, (pkA cs' (set, s, tb, od)).1, (pkA cs' (set, s, tb, od)).2.1, (pkA cs' (set, s, tb, od)).2.2.1, cs', tb.length, (pkA cs' (set, s, tb, od)).2.2.2) ⟨rfl, h2, rfl, k3.symm, ?_, ?_, ?_⟩ ?_
      · rw [k2]; exact hlt
      · rw [k2]; exact k4
      · rw [k2]; exact h4
      · dsimp only; rw [k2]; dsimp only; omega
    · rw [show 40 - od.length = 0 by omega, okrd] at hk
      rw [hk] at e'; cases e'
  · have e' : F57.val (cs', [], ()) set = true := by
      have : F57.val (cs', List.take tb.length tb, ()) set = true := by simpa using e
      exact this
    have hr : rd cs' (40 - od.length) (set, s, tb, od) = (set, s, tb, od) := by
      cases 40 - od.length with
      | zero => rfl
      | succ f => rw [rd, e', cond_true]
    exact h4 _ hr.symm
def tb0 (cs : List D30) : List Int := List.replicate ((cs.length + 1) * 2 ^ cs.length) 0
def Pre (cs : List D30) : Prop := cs.length ≤ 16 ∧ okF 40 cs 0 0 (tb0 cs) ∧ ((fnd 40 cs 0 0 (tb0 cs)).1 = true → (fnd 40 cs 0 0 (tb0 cs)).2.length = (tb0 cs).length ∧ okrd cs 40 (0, 0, (fnd 40 cs 0 0 (tb0 cs)).2, []))
def val (cs : List D30) : List Int × Bool := bif !(fnd 40 cs 0 0 (tb0 cs)).1 then ([], false) else ((rd cs 40 (0, 0, (fnd 40 cs 0 0 (tb0 cs)).2, [])).2.2.2, true)
theorem two_pow : ∀ n : Nat, n < 17 → IntKind.i64.wrap (IntKind.i64.wrap ((n : Int) + 1) * (2 : Int) ^ min n IntKind.i64.bits) = (((n + 1) * 2 ^ n : Nat) : Int) ∧ (n + 1) * 2 ^ n ≤ 1114112 := by decide
theorem spec (calls : List D30) (k : AV → Prop) (h : AllP [Pre calls]) (hk : k (.tup [⟨.sl (.int .i64), (val calls).1⟩, ⟨.bool, (val calls).2⟩])) : Main calls k := by
  obtain ⟨⟨hl, hq, ho⟩, _⟩ := h
  obtain ⟨e1, e2⟩ := two_pow calls.length (by omega)
  have e0 : min ((calls.length : Int)).toNat IntKind.i64.bits = min calls.length IntKind.i64.bits := by rw [Int.toNat_natCast]
  unfold Main
  rw [e0, e1, Int.toNat_natCast]
  have hLB : calls.length ≤ LB := by have : LB = 1073741824 := rfl; omega
  unfold val at hk
  refine ⟨by omega, rfl, Int.natCast_nonneg _, Int.ofNat_le.2 (Nat.le_trans e2 (by decide)), rfl, (List.length_replicate).symm, hq, bif_i (fun e => ?_) (fun e => ?_)⟩
  · have e' : (!(fnd 40 calls 0 0 (tb0 calls)).1) = true := e
    rw [e', cond_true] at hk
    exact hk
  · have e' : (!(fnd 40 calls 0 0 (tb0 calls)).1) = false := e
    rw [e', cond_false] at hk
    obtain ⟨p1, p2⟩ := ho (by simpa using e')
    refine ⟨rfl, rfl, hLB, rfl, ?_, Nat.zero_le _, p2, fun q hq => ?_⟩
    · have := p1; unfold tb0 at this; rw [this, List.length_replicate]
    · have hq' : q = rd calls 40 (0, 0, (fnd 40 calls 0 0 (tb0 calls)).2, []) := hq
      subst hq'
      rw [List.take_length]
      exact ⟨by omega, hk⟩
noncomputable def ts : List Ty := [(.sl T30)]
noncomputable def G : List AV → PV := pg1 (.sl T30) (fun calls => [Pre calls]) (fun calls => .tup [⟨.sl (.int .i64), (val calls).1⟩, ⟨.bool, (val calls).2⟩])
theorem loopsOK : LoopsOK C callF (bodyOf Try.f44) := loopsOK_seek (tbl := loops) (fun _ => rfl) (by kernel_rfl) (List.forall_mem_cons.2 ⟨mkL_ok loop7, List.forall_mem_cons.2 ⟨mkL_ok loop9, fun _ h => nomatch h⟩⟩)
theorem pursOK : ∀ g ts F, C.pur g = some (ts, F) → SoundP Try.prog g F := purOf_ok (l := purs) (List.forall_mem_cons.2 ⟨Go.Proofs.Ytdjdbjcapenjeaa.KE.F57.ok, List.forall_mem_cons.2 ⟨Go.Proofs.Ytdjdbjcapenjeaa.KE.F58.ok, fun _ h => nomatch h⟩⟩)
theorem cfsOK : ∀ g, SoundF Try.prog g (callF g) := callsOK (l := [(56, Go.Proofs.Ytdjdbjcapenjeaa.KF.F56.cf)]) (List.forall_mem_cons.2 ⟨Go.Proofs.Ytdjdbjcapenjeaa.KF.F56.ok, fun _ h => nomatch h⟩)
theorem ok : SoundP Try.prog 44 G := by
  unfold G
  refine soundP_pg1 (soundF_run (C := C) (callF := callF) (tabOK C rfl rfl rfl) cfsOK pursOK Try.func44 (by kernel_rfl) loopsOK) [(.sl (.int .i64)), .bool] fun calls h => ?_
  rw [main]
  exact spec calls _ h rfl
end F44

end Go.Proofs.Ytdjdbjcapenjeaa.KG
