/- the document's table: what can be -/
import Derived.Test.YtdjdbjcapenjeaaDxTab
import Derived.Test.YtdjdbjcapenjeaaDx3
import Derived.Test.YtdjdbjcapenjeaaDxTy
import Derived.Test.YtdjdbjcapenjeaaKE
set_option linter.unusedVariables false
set_option maxRecDepth 100000
open Go Go.Proofs Go.Proofs.Ytdjdbjcapenjeaa.Dx Go.Proofs.Ytdjdbjcapenjeaa.Dx.TYtdjdbjcapenjeaa
namespace Go.Proofs.Ytdjdbjcapenjeaa.KF
open KE
abbrev onI (i : Int) : Int := IntKind.i64.wrap ((1 : Int) * (2 : Int) ^ min i.toNat IntKind.i64.bits)
abbrev addS (set i : Int) : Int := IntKind.i64.wrap (set + onI i)
abbrev atI (cs : List D30) (set s : Int) : Int := IntKind.i64.wrap (IntKind.i64.wrap (set * IntKind.i64.wrap ((cs.length : Int) + 1)) + s)
/-- May the call i come next, and the value's number behind it. -/
def nxV (cs : List D30) (set s i : Int) : Bool × Int := F58.val (cs, [], ()) set s i
def nxP (cs : List D30) (set s i : Int) : Prop := F58.Pre (cs, [], ()) set s i
theorem nxV_eq (cs : List D30) (l : List Int) (set s i : Int) : F58.val (cs, l, ()) set s i = nxV cs set s i := rfl
/-- The loop over all calls, what is behind being told. -/
def flp (r : Int → Int → List Int → Bool × List Int) (cs : List D30) (a : Nat) (set s : Int) : List Nat → List Int → List Int
  | [], tb => tb
  | i :: l, tb => bif tb.getD a 0 == 2 then
      bif (nxV cs set s i).1 then
        bif (r (addS set i) (nxV cs set s i).2 tb).1 then flp r cs a set s l ((r (addS set i) (nxV cs set s i).2 tb).2.set a 1) else flp r cs a set s l (r (addS set i) (nxV cs set s i).2 tb).2
      else flp r cs a set s l tb
    else tb
def okfl (r : Int → Int → List Int → Bool × List Int) (q : Int → Int → List Int → Prop) (cs : List D30) (a : Nat) (set s : Int) : List Nat → List Int → Prop
  | [], _ => True
  | i :: l, tb => a < tb.length ∧ bif tb.getD a 0 == 2 then (nxP cs set s i ∧
      bif (nxV cs set s i).1 then (q (addS set i) (nxV cs set s i).2 tb ∧ (r (addS set i) (nxV cs set s i).2 tb).2.length = tb.length ∧
        bif (r (addS set i) (nxV cs set s i).2 tb).1 then okfl r q cs a set s l ((r (addS set i) (nxV cs set s i).2 tb).2.set a 1) else okfl r q cs a set s l (r (addS set i) (nxV cs set s i).2 tb).2)
      else okfl r q cs a set s l tb)
    else True
def t2 (cs : List D30) (a : Nat) (set : Int) (tb : List Int) : List Int := bif F57.val (cs, [], ()) set then (tb.set a 2).set a 1 else tb.set a 2
def fnd : Nat → List D30 → Int → Int → List Int → Bool × List Int
  | 0, _, _, _, tb => (false, tb)
  | f + 1, cs, set, s, tb => bif tb.getD (atI cs set s).toNat 0 == 0 then
      ((flp (fnd f cs) cs (atI cs set s).toNat set s (List.range' 0 cs.length) (t2 cs (atI cs set s).toNat set tb)).getD (atI cs set s).toNat 0 == 1, flp (fnd f cs) cs (atI cs set s).toNat set s (List.range' 0 cs.length) (t2 cs (atI cs set s).toNat set tb))
    else (tb.getD (atI cs set s).toNat 0 == 1, tb)
def okF : Nat → List D30 → Int → Int → List Int → Prop
  | 0, _, _, _, _ => False
  | f + 1, cs, set, s, tb => (0 ≤ atI cs set s ∧ (atI cs set s).toNat < tb.length ∧ cs.length ≤ LB) ∧ bif tb.getD (atI cs set s).toNat 0 == 0 then
      (okfl (fnd f cs) (okF f cs) cs (atI cs set s).toNat set s (List.range' 0 cs.length) (t2 cs (atI cs set s).toNat set tb) ∧ (flp (fnd f cs) cs (atI cs set s).toNat set s (List.range' 0 cs.length) (t2 cs (atI cs set s).toNat set tb)).length = tb.length)
    else True
namespace F56
abbrev VA := Int × Int × (List D30) × Nat × (List Int)
noncomputable def stA (v : VA) : St := ⟨[.v .ref (.ptr 0 []), .v (.int .i64) (v.1), .v (.int .i64) (v.2.1)], [.var (.pair (.sl T30) (.pair .ref .unit)) ((v.2.2.1), ((.sl 1 0 (v.2.2.2.1)), ())) 103, .row (.int .u8) (v.2.2.2.2) 5]⟩
noncomputable def decA (s : St) : Option VA := match gV (.int .i64) (s.T.getD 1 .dead), gV (.int .i64) (s.T.getD 2 .dead), gVar (.pair (.sl T30) (.pair .ref .unit)) s.H[0]?, gRow (.int .u8) s.H[1]? with | some a1, some a2, some b0, some b1 => some (a1, a2, (b0).1, rN (((b0).2).1), b1) | _, _, _, _ => none
abbrev FU : Type := (List D30 → Int → Int → List Int → Bool × List Int) × (List D30 → Int → Int → List Int → Prop)
abbrev FUof (n : Nat) : FU := (fnd n, okF n)
noncomputable def QAn : FU → VA → (AV → List HObj → Prop) → Prop := fun fu (set, s, cs, nt, tb) κ => nt = tb.length ∧ fu.2 cs set s tb ∧
  κ (.v .bool (fu.1 cs set s tb).1) [.var (.pair (.sl T30) (.pair .ref .unit)) (cs, .sl 1 0 nt, ()) 103, .row (.int .u8) (fu.1 cs set s tb).2 5]
/-- The function's own contract, one call deeper. -/
abbrev V7 := Int × Int × Int × Int × (List D30) × Nat × (List Int)
noncomputable def st7 (v : V7) : St := ⟨[.v .ref (.ptr 0 []), .v (.int .i64) (v.1), .v (.int .i64) (v.2.1), .dead, .dead, .dead, .dead, .v (.int .i64) (v.2.2.1), .v (.int .i64) (v.2.2.2.1), .dead, .dead, .dead, .dead, .dead, .dead, .dead, .dead, .dead, .dead, .dead, .dead, .dead, .dead, .dead, .dead, .dead, .dead, .dead, .dead, .dead, .dead, .dead, .dead, .dead, .dead, .dead, .dead, .dead, .dead, .dead, .dead, .dead, .dead, .dead, .dead, .dead, .dead, .dead, .dead, .dead, .dead, .dead, .dead, .dead, .dead, .dead, .dead, .dead, .dead, .dead, .dead, .dead, .dead, .dead, .dead, .dead, .dead, .dead, .dead, .dead, .dead, .dead, .dead, .dead, .dead, .dead, .dead, .dead, .dead, .dead, .dead, .dead, .dead, .dead, .dead, .dead, .dead, .dead, .dead, .dead, .dead, .dead, .dead, .dead, .dead], [.var (.pair (.sl T30) (.pair .ref .unit)) ((v.2.2.2.2.1), ((.sl 1 0 (v.2.2.2.2.2.1)), ())) 103, .row (.int .u8) (v.2.2.2.2.2.2) 5]⟩
noncomputable def dec7 (s : St) : Option V7 := match gV (.int .i64) (s.T.getD 1 .dead), gV (.int .i64) (s.T.getD 2 .dead), gV (.int .i64) (s.T.getD 7 .dead), gV (.int .i64) (s.T.getD 8 .dead), gVar (.pair (.sl T30) (.pair .ref .unit)) s.H[0]?, gRow (.int .u8) s.H[1]? with | some a1, some a2, some a7, some a8, some b0, some b1 => some (a1, a2, a7, a8, (b0).1, rN (((b0).2).1), b1) | _, _, _, _, _, _ => none
noncomputable def keep7 : List Nat := [0, 1, 2, 7, 8]
noncomputable def body7 : Code := bodyAt (loopsOf (bodyOf Try.f56)) 7
noncomputable def s0 (x7 : Int) (h0_0 : (List D30)) (n0_1 : Nat) (h1 : (List Int)) : St := ⟨[.v .ref (.ptr 0 []), .dead, .dead, .dead, .dead, .dead, .dead, .v (.int .i64) x7, .dead, .dead, .dead, .dead, .dead, .dead, .dead, .dead, .dead, .dead, .dead, .dead, .dead, .dead, .dead, .dead, .dead, .dead, .dead, .dead, .dead, .dead, .dead, .dead, .dead, .dead, .dead, .dead, .dead, .dead, .dead, .dead, .dead, .dead, .dead, .dead, .dead, .dead, .dead, .dead, .dead, .dead, .dead, .dead, .dead, .dead, .dead, .dead, .dead, .dead, .dead, .dead, .dead, .dead, .dead, .dead, .dead, .dead, .dead, .dead, .dead, .dead, .dead, .dead, .dead, .dead, .dead, .dead, .dead, .dead, .dead, .dead, .dead, .dead, .dead, .dead, .dead, .dead, .dead, .dead, .dead, .dead, .dead, .dead, .dead, .dead, .dead], [.var (.pair (.sl T30) (.pair .ref .unit)) (h0_0, ((.sl 1 0 n0_1), ())) 103, .row (.int .u8) h1 5]⟩
def Q7 : FU → V7 → (Nat → St → Prop) → (St → Prop) → Prop := fun fu (set, s, a, i, cs, nt, tb) X R => 0 ≤ i ∧ i ≤ cs.length ∧ cs.length ≤ LB ∧ 0 ≤ a ∧ nt = tb.length ∧
  okfl (fu.1 cs) (fu.2 cs) cs a.toNat set s (List.range' i.toNat (cs.length - i.toNat)) tb ∧ X 0 (s0 a cs nt (flp (fu.1 cs) cs a.toNat set s (List.range' i.toNat (cs.length - i.toNat)) tb))
noncomputable def purs : List (Nat × (List Ty × (List AV → PV))) := [(57, (Go.Proofs.Ytdjdbjcapenjeaa.KE.F57.ts, Go.Proofs.Ytdjdbjcapenjeaa.KE.F57.G)), (58, (Go.Proofs.Ytdjdbjcapenjeaa.KE.F58.ts, Go.Proofs.Ytdjdbjcapenjeaa.KE.F58.G))]
noncomputable def callF (fu : FU) (g : FuncId) : CF := match seek [(56, mkC decA stA (QAn fu))] g with | some F => F | none => fun _ _ _ => False
noncomputable def L7 (fu : FU) : K → Nat → St → Prop := mkL dec7 st7 2 2 [] (Q7 fu)
noncomputable def loops (fu : FU) : List (Nat × (List Nat × (K → Nat → St → Prop))) := [(7, (keep7, L7 fu))]
noncomputable def C (fu : FU) : Ctx := { ti := ti, meth := meth, can := can, pur := purOf purs, loops := fun i => seek (loops fu) i, gh := fun _ => [], xk := fun i => seek [(0, ([0, 7], 0))] i, rk := some ([6], 2) }
noncomputable def Round7 (fu : FU) (x1 : Int) (x2 : Int) (x7 : Int) (x8 : Int) (h0_0 : (List D30)) (n0_1 : Nat) (h1 : (List Int)) (N : St → Prop) (X : Nat → St → Prop) (R : St → Prop) : Prop :=
  (bif decide (x8 < (↑h0_0.length : Int)) then (((0 : Int) ≤ x7) ∧ ((x7 < (↑n0_1 : Int)) ∧ ((x7.toNat < h1.length) ∧ (bif h1.getD x7.toNat (0 : Int) == (2 : Int) then (((0 : Nat) + n0_1 ≤ h1.length) ∧ ((F58.Pre (h0_0, List.take n0_1 h1, ()) x1 x2 x8) ∧ (bif (F58.val (h0_0, List.take n0_1 h1, ()) x1 x2 x8).fst then (((0 : Int) ≤ x8) ∧ (stA (IntKind.i64.wrap (x1 + IntKind.i64.wrap ((1 : Int) * (2 : Int) ^ min x8.toNat IntKind.i64.bits)), (F58.val (h0_0, List.take n0_1 h1, ()) x1 x2 x8).snd, h0_0, n0_1, h1) = stA (IntKind.i64.wrap (x1 + IntKind.i64.wrap ((1 : Int) * (2 : Int) ^ min x8.toNat IntKind.i64.bits)), (F58.val (h0_0, List.take n0_1 h1, ()) x1 x2 x8).snd, h0_0, n0_1, h1) ∧ ((n0_1 = h1.length) ∧ ((fu.snd h0_0 (IntKind.i64.wrap (x1 + IntKind.i64.wrap ((1 : Int) * (2 : Int) ^ min x8.toNat IntKind.i64.bits))) (F58.val (h0_0, List.take n0_1 h1, ()) x1 x2 x8).snd h1) ∧ (bif (fu.fst h0_0 (IntKind.i64.wrap (x1 + IntKind.i64.wrap ((1 : Int) * (2 : Int) ^ min x8.toNat IntKind.i64.bits))) (F58.val (h0_0, List.take n0_1 h1, ()) x1 x2 x8).snd h1).fst then (((0 : Int) ≤ x7) ∧ ((x7 < (↑n0_1 : Int)) ∧ ((x7.toNat < (fu.fst h0_0 (IntKind.i64.wrap (x1 + IntKind.i64.wrap ((1 : Int) * (2 : Int) ^ min x8.toNat IntKind.i64.bits))) (F58.val (h0_0, List.take n0_1 h1, ()) x1 x2 x8).snd h1).snd.length) ∧ N (st7 (x1, x2, x7, IntKind.i64.wrap (x8 + (1 : Int)), h0_0, n0_1, (fu.fst h0_0 (IntKind.i64.wrap (x1 + IntKind.i64.wrap ((1 : Int) * (2 : Int) ^ min x8.toNat IntKind.i64.bits))) (F58.val (h0_0, List.take n0_1 h1, ()) x1 x2 x8).snd h1).snd.set x7.toNat (1 : Int)))))) else N (st7 (x1, x2, x7, IntKind.i64.wrap (x8 + (1 : Int)), h0_0, n0_1, (fu.fst h0_0 (IntKind.i64.wrap (x1 + IntKind.i64.wrap ((1 : Int) * (2 : Int) ^ min x8.toNat IntKind.i64.bits))) (F58.val (h0_0, List.take n0_1 h1, ()) x1 x2 x8).snd h1).snd))))))) else N (st7 (x1, x2, x7, IntKind.i64.wrap (x8 + (1 : Int)), h0_0, n0_1, h1))))) else X 0 (s0 (x7) (h0_0) (n0_1) (h1)))))) else X 0 (s0 (x7) (h0_0) (n0_1) (h1)))
theorem round7 (fu : FU) (x1 : Int) (x2 : Int) (x7 : Int) (x8 : Int) (h0_0 : (List D30)) (n0_1 : Nat) (h1 : (List Int)) (N : St → Prop) (X : Nat → St → Prop) (R : St → Prop) : exec (C fu) (callF fu) body7 ⟨2, [2], fun s' => cond (Nat.ble 2 s'.H.length) (N (scrub keep7 2 s')) False, X, R⟩ (st7 (x1, x2, x7, x8, h0_0, n0_1, h1)) = Round7 fu x1 x2 x7 x8 h0_0 n0_1 h1 N X R := by kernel_rfl
noncomputable def Main (fu : FU) (set : Int) (s : Int) (cs : (List D30)) (nt : Nat) (tb : (List Int)) (k : AV → List HObj → Prop) : Prop :=
  (((0 : Int) ≤ IntKind.i64.wrap (IntKind.i64.wrap (set * IntKind.i64.wrap ((↑cs.length : Int) + (1 : Int))) + s)) ∧ ((IntKind.i64.wrap (IntKind.i64.wrap (set * IntKind.i64.wrap ((↑cs.length : Int) + (1 : Int))) + s) < (↑nt : Int)) ∧ (((IntKind.i64.wrap (IntKind.i64.wrap (set * IntKind.i64.wrap ((↑cs.length : Int) + (1 : Int))) + s)).toNat < tb.length) ∧ (bif tb.getD (IntKind.i64.wrap (IntKind.i64.wrap (set * IntKind.i64.wrap ((↑cs.length : Int) + (1 : Int))) + s)).toNat (0 : Int) == (0 : Int) then (((0 : Int) ≤ IntKind.i64.wrap (IntKind.i64.wrap (set * IntKind.i64.wrap ((↑cs.length : Int) + (1 : Int))) + s)) ∧ ((IntKind.i64.wrap (IntKind.i64.wrap (set * IntKind.i64.wrap ((↑cs.length : Int) + (1 : Int))) + s) < (↑nt : Int)) ∧ (((IntKind.i64.wrap (IntKind.i64.wrap (set * IntKind.i64.wrap ((↑cs.length : Int) + (1 : Int))) + s)).toNat < tb.length) ∧ (((0 : Nat) + nt ≤ (tb.set (IntKind.i64.wrap (IntKind.i64.wrap (set * IntKind.i64.wrap ((↑cs.length : Int) + (1 : Int))) + s)).toNat (2 : Int)).length) ∧ ((F57.Pre (cs, List.take nt (tb.set (IntKind.i64.wrap (IntKind.i64.wrap (set * IntKind.i64.wrap ((↑cs.length : Int) + (1 : Int))) + s)).toNat (2 : Int)), ()) set) ∧ (bif F57.val (cs, List.take nt (tb.set (IntKind.i64.wrap (IntKind.i64.wrap (set * IntKind.i64.wrap ((↑cs.length : Int) + (1 : Int))) + s)).toNat (2 : Int)), ()) set then (((0 : Int) ≤ IntKind.i64.wrap (IntKind.i64.wrap (set * IntKind.i64.wrap ((↑cs.length : Int) + (1 : Int))) + s)) ∧ ((IntKind.i64.wrap (IntKind.i64.wrap (set * IntKind.i64.wrap ((↑cs.length : Int) + (1 : Int))) + s) < (↑nt : Int)) ∧ (((IntKind.i64.wrap (IntKind.i64.wrap (set * IntKind.i64.wrap ((↑cs.length : Int) + (1 : Int))) + s)).toNat < (tb.set (IntKind.i64.wrap (IntKind.i64.wrap (set * IntKind.i64.wrap ((↑cs.length : Int) + (1 : Int))) + s)).toNat (2 : Int)).length) ∧ (st7 (set, s, IntKind.i64.wrap (IntKind.i64.wrap (set * IntKind.i64.wrap ((↑cs.length : Int) + (1 : Int))) + s), (0 : Int), cs, nt, (tb.set (IntKind.i64.wrap (IntKind.i64.wrap (set * IntKind.i64.wrap ((↑cs.length : Int) + (1 : Int))) + s)).toNat (2 : Int)).set (IntKind.i64.wrap (IntKind.i64.wrap (set * IntKind.i64.wrap ((↑cs.length : Int) + (1 : Int))) + s)).toNat (1 : Int)) = st7 (set, s, IntKind.i64.wrap (IntKind.i64.wrap (set * IntKind.i64.wrap ((↑cs.length : Int) + (1 : Int))) + s), (0 : Int), cs, nt, (tb.set (IntKind.i64.wrap (IntKind.i64.wrap (set * IntKind.i64.wrap ((↑cs.length : Int) + (1 : Int))) + s)).toNat (2 : Int)).set (IntKind.i64.wrap (IntKind.i64.wrap (set * IntKind.i64.wrap ((↑cs.length : Int) + (1 : Int))) + s)).toNat (1 : Int)) ∧ (((0 : Int) ≤ (0 : Int)) ∧ (((0 : Int) ≤ (↑cs.length : Int)) ∧ ((cs.length ≤ LB) ∧ (((0 : Int) ≤ IntKind.i64.wrap (IntKind.i64.wrap (set * IntKind.i64.wrap ((↑cs.length : Int) + (1 : Int))) + s)) ∧ ((nt = ((tb.set (IntKind.i64.wrap (IntKind.i64.wrap (set * IntKind.i64.wrap ((↑cs.length : Int) + (1 : Int))) + s)).toNat (2 : Int)).set (IntKind.i64.wrap (IntKind.i64.wrap (set * IntKind.i64.wrap ((↑cs.length : Int) + (1 : Int))) + s)).toNat (1 : Int)).length) ∧ ((okfl (fu.fst cs) (fu.snd cs) cs (IntKind.i64.wrap (IntKind.i64.wrap (set * IntKind.i64.wrap ((↑cs.length : Int) + (1 : Int))) + s)).toNat set s (List.range' (Int.toNat (0 : Int)) (cs.length - Int.toNat (0 : Int))) ((tb.set (IntKind.i64.wrap (IntKind.i64.wrap (set * IntKind.i64.wrap ((↑cs.length : Int) + (1 : Int))) + s)).toNat (2 : Int)).set (IntKind.i64.wrap (IntKind.i64.wrap (set * IntKind.i64.wrap ((↑cs.length : Int) + (1 : Int))) + s)).toNat (1 : Int))) ∧ (((0 : Int) ≤ IntKind.i64.wrap (IntKind.i64.wrap (set * IntKind.i64.wrap ((↑cs.length : Int) + (1 : Int))) + s)) ∧ ((IntKind.i64.wrap (IntKind.i64.wrap (set * IntKind.i64.wrap ((↑cs.length : Int) + (1 : Int))) + s) < (↑nt : Int)) ∧ (((IntKind.i64.wrap (IntKind.i64.wrap (set * IntKind.i64.wrap ((↑cs.length : Int) + (1 : Int))) + s)).toNat < (flp (fu.fst cs) cs (IntKind.i64.wrap (IntKind.i64.wrap (set * IntKind.i64.wrap ((↑cs.length : Int) + (1 : Int))) + s)).toNat set s (List.range' (Int.toNat (0 : Int)) (cs.length - Int.toNat (0 : Int))) ((tb.set (IntKind.i64.wrap (IntKind.i64.wrap (set * IntKind.i64.wrap ((↑cs.length : Int) + (1 : Int))) + s)).toNat (2 : Int)).set (IntKind.i64.wrap (IntKind.i64.wrap (set * IntKind.i64.wrap ((↑cs.length : Int) + (1 : Int))) + s)).toNat (1 : Int))).length) ∧ k (.v .bool ((flp (fu.fst cs) cs (IntKind.i64.wrap (IntKind.i64.wrap (set * IntKind.i64.wrap ((↑cs.length : Int) + (1 : Int))) + s)).toNat set s (List.range' (Int.toNat (0 : Int)) (cs.length - Int.toNat (0 : Int))) ((tb.set (IntKind.i64.wrap (IntKind.i64.wrap (set * IntKind.i64.wrap ((↑cs.length : Int) + (1 : Int))) + s)).toNat (2 : Int)).set (IntKind.i64.wrap (IntKind.i64.wrap (set * IntKind.i64.wrap ((↑cs.length : Int) + (1 : Int))) + s)).toNat (1 : Int))).getD (IntKind.i64.wrap (IntKind.i64.wrap (set * IntKind.i64.wrap ((↑cs.length : Int) + (1 : Int))) + s)).toNat (0 : Int) == (1 : Int))) [.var (.pair (.sl T30) (.pair .ref .unit)) ((cs), ((.sl 1 0 (nt)), ())) 103, .row (.int .u8) (flp (fu.fst cs) cs (IntKind.i64.wrap (IntKind.i64.wrap (set * IntKind.i64.wrap ((↑cs.length : Int) + (1 : Int))) + s)).toNat set s (List.range' (Int.toNat (0 : Int)) (cs.length - Int.toNat (0 : Int))) ((tb.set (IntKind.i64.wrap (IntKind.i64.wrap (set * IntKind.i64.wrap ((↑cs.length : Int) + (1 : Int))) + s)).toNat (2 : Int)).set (IntKind.i64.wrap (IntKind.i64.wrap (set * IntKind.i64.wrap ((↑cs.length : Int) + (1 : Int))) + s)).toNat (1 : Int))) 5]))))))))))))) else (st7 (set, s, IntKind.i64.wrap (IntKind.i64.wrap (set * IntKind.i64.wrap ((↑cs.length : Int) + (1 : Int))) + s), (0 : Int), cs, nt, tb.set (IntKind.i64.wrap (IntKind.i64.wrap (set * IntKind.i64.wrap ((↑cs.length : Int) + (1 : Int))) + s)).toNat (2 : Int)) = st7 (set, s, IntKind.i64.wrap (IntKind.i64.wrap (set * IntKind.i64.wrap ((↑cs.length : Int) + (1 : Int))) + s), (0 : Int), cs, nt, tb.set (IntKind.i64.wrap (IntKind.i64.wrap (set * IntKind.i64.wrap ((↑cs.length : Int) + (1 : Int))) + s)).toNat (2 : Int)) ∧ (((0 : Int) ≤ (0 : Int)) ∧ (((0 : Int) ≤ (↑cs.length : Int)) ∧ ((cs.length ≤ LB) ∧ (((0 : Int) ≤ IntKind.i64.wrap (IntKind.i64.wrap (set * IntKind.i64.wrap ((↑cs.length : Int) + (1 : Int))) + s)) ∧ ((nt = (tb.set (IntKind.i64.wrap (IntKind.i64.wrap (set * IntKind.i64.wrap ((↑cs.length : Int) + (1 : Int))) + s)).toNat (2 : Int)).length) ∧ ((okfl (fu.fst cs) (fu.snd cs) cs (IntKind.i64.wrap (IntKind.i64.wrap (set * IntKind.i64.wrap ((↑cs.length : Int) + (1 : Int))) + s)).toNat set s (List.range' (Int.toNat (0 : Int)) (cs.length - Int.toNat (0 : Int))) (tb.set (IntKind.i64.wrap (IntKind.i64.wrap (set * IntKind.i64.wrap ((↑cs.length : Int) + (1 : Int))) + s)).toNat (2 : Int))) ∧ (((0 : Int) ≤ IntKind.i64.wrap (IntKind.i64.wrap (set * IntKind.i64.wrap ((↑cs.length : Int) + (1 : Int))) + s)) ∧ ((IntKind.i64.wrap (IntKind.i64.wrap (set * IntKind.i64.wrap ((↑cs.length : Int) + (1 : Int))) + s) < (↑nt : Int)) ∧ (((IntKind.i64.wrap (IntKind.i64.wrap (set * IntKind.i64.wrap ((↑cs.length : Int) + (1 : Int))) + s)).toNat < (flp (fu.fst cs) cs (IntKind.i64.wrap (IntKind.i64.wrap (set * IntKind.i64.wrap ((↑cs.length : Int) + (1 : Int))) + s)).toNat set s (List.range' (Int.toNat (0 : Int)) (cs.length - Int.toNat (0 : Int))) (tb.set (IntKind.i64.wrap (IntKind.i64.wrap (set * IntKind.i64.wrap ((↑cs.length : Int) + (1 : Int))) + s)).toNat (2 : Int))).length) ∧ k (.v .bool ((flp (fu.fst cs) cs (IntKind.i64.wrap (IntKind.i64.wrap (set * IntKind.i64.wrap ((↑cs.length : Int) + (1 : Int))) + s)).toNat set s (List.range' (Int.toNat (0 : Int)) (cs.length - Int.toNat (0 : Int))) (tb.set (IntKind.i64.wrap (IntKind.i64.wrap (set * IntKind.i64.wrap ((↑cs.length : Int) + (1 : Int))) + s)).toNat (2 : Int))).getD (IntKind.i64.wrap (IntKind.i64.wrap (set * IntKind.i64.wrap ((↑cs.length : Int) + (1 : Int))) + s)).toNat (0 : Int) == (1 : Int))) [.var (.pair (.sl T30) (.pair .ref .unit)) ((cs), ((.sl 1 0 (nt)), ())) 103, .row (.int .u8) (flp (fu.fst cs) cs (IntKind.i64.wrap (IntKind.i64.wrap (set * IntKind.i64.wrap ((↑cs.length : Int) + (1 : Int))) + s)).toNat set s (List.range' (Int.toNat (0 : Int)) (cs.length - Int.toNat (0 : Int))) (tb.set (IntKind.i64.wrap (IntKind.i64.wrap (set * IntKind.i64.wrap ((↑cs.length : Int) + (1 : Int))) + s)).toNat (2 : Int))) 5])))))))))))))))) else (((0 : Int) ≤ IntKind.i64.wrap (IntKind.i64.wrap (set * IntKind.i64.wrap ((↑cs.length : Int) + (1 : Int))) + s)) ∧ ((IntKind.i64.wrap (IntKind.i64.wrap (set * IntKind.i64.wrap ((↑cs.length : Int) + (1 : Int))) + s) < (↑nt : Int)) ∧ (((IntKind.i64.wrap (IntKind.i64.wrap (set * IntKind.i64.wrap ((↑cs.length : Int) + (1 : Int))) + s)).toNat < tb.length) ∧ k (.v .bool (tb.getD (IntKind.i64.wrap (IntKind.i64.wrap (set * IntKind.i64.wrap ((↑cs.length : Int) + (1 : Int))) + s)).toNat (0 : Int) == (1 : Int))) [.var (.pair (.sl T30) (.pair .ref .unit)) ((cs), ((.sl 1 0 (nt)), ())) 103, .row (.int .u8) (tb) 5])))))))
theorem main (fu : FU) (set : Int) (s : Int) (cs : (List D30)) (nt : Nat) (tb : (List Int)) (k : AV → List HObj → Prop) : (runFn (C fu) (callF fu) Try.f56 [.v .ref (.ptr 0 []), .v (.int .i64) set, .v (.int .i64) s] [.var (.pair (.sl T30) (.pair .ref .unit)) (cs, .sl 1 0 nt, ()) 103, .row (.int .u8) tb 5] k) = Main fu set s cs nt tb k := by kernel_rfl
theorem loop7 (fu : FU) (v : V7) (X : Nat → St → Prop) (R : St → Prop) : Q7 fu v X R → ∃ m, loopN (C fu) (callF fu) keep7 2 body7 ⟨2, [], fun _ => False, X, R⟩ m (st7 v) := by
  refine loop_ind (fun v => Q7 fu v X R) (fun (set, s, a, i, cs, nt, tb) => cs.length - i.toNat) ?_ v
  rintro ⟨set, s, a, i, cs, nt, tb⟩ ⟨h0, h1, h2, g0, rfl, hk, h4⟩ N hN
  rw [round7]
  obtain ⟨j, rfl⟩ : ∃ a : Nat, i = a := ⟨i.toNat, by omega⟩
  obtain ⟨a, rfl⟩ : ∃ b : Nat, a = b := ⟨a.toNat, by omega⟩
  dsimp only at hN
  rw [Int.toNat_natCast, Int.toNat_natCast] at h4 hk
  have h2' : cs.length ≤ 1073741824 := h2
  refine bif_d (fun hj => ?_) (fun hj => ?_)
  · have hn : j < cs.length := by omega
    rw [range_cons hn, flp] at h4
    rw [range_cons hn, okfl] at hk
    obtain ⟨ha, hk⟩ := hk
    have next : ∀ t : List Int, t.length = tb.length → okfl (fu.1 cs) (fu.2 cs) cs a set s (List.range' (j + 1) (cs.length - (j + 1))) t → X 0 (s0 a cs tb.length (flp (fu.1 cs) cs a set s (List.range' (j + 1) (cs.length - (j + 1))) t)) →
        N (st7 (set, s, (a : Int), ((j + 1 : Nat) : Int), cs, tb.length, t)) := fun t e k q =>
      hN (set, s, (a : Int), ((j + 1 : Nat) : Int), cs, tb.length, t) ⟨by omega, by omega, h2, g0, e.symm, by rw [Int.toNat_natCast, Int.toNat_natCast]; exact k, by rw [Int.toNat_natCast, Int.toNat_natCast]; exact q⟩ (by dsimp only; omega)
    rw [Int.toNat_natCast, Int.toNat_natCast, w64n (by omega)]
    refine ⟨by omega, by omega, ha, bif_i (fun e => ?_) (fun e => ?_)⟩
    · rw [e, cond_true] at h4 hk
      obtain ⟨hp, hk⟩ := hk
      refine ⟨by omega, hp, bif_i (fun e2 => ?_) (fun e2 => ?_)⟩
      · rw [show (nxV cs set s (j : Int)).1 = true from e2, cond_true] at h4 hk
        obtain ⟨k1, k2, k3⟩ := hk
        refine ⟨by omega, rfl, rfl, k1, bif_i (fun e3 => ⟨by omega, by omega, ?_, ?_⟩) (fun e3 => ?_)⟩
        · have := lt_of_lt_of_eq ha k2.symm; exact this
        · rw [show (fu.1 cs (addS set (j : Int)) (nxV cs set s (j : Int)).2 tb).1 = true from e3, cond_true] at h4 k3
          exact next _ (by rw [List.length_set]; exact k2) k3 h4
        · rw [show (fu.1 cs (addS set (j : Int)) (nxV cs set s (j : Int)).2 tb).1 = false from e3, cond_false] at h4 k3
          exact next _ k2 k3 h4
      · rw [show (nxV cs set s (j : Int)).1 = false from e2, cond_false] at h4 hk
        exact next _ rfl hk h4
    · rw [e, cond_false] at h4
      exact h4
  · rw [show cs.length - j = 0 by omega, show List.range' j 0 = [] from rfl, flp] at h4
    exact h4
theorem QAn_zero (v : VA) (κ : AV → List HObj → Prop) (h : QAn (FUof 0) v κ) : False := h.2.1
theorem spec (n : Nat) (set s : Int) (cs : List D30) (nt : Nat) (tb : List Int) (κ : AV → List HObj → Prop) (h : QAn (FUof (n + 1)) (set, s, cs, nt, tb) κ) : Main (FUof n) set s cs nt tb κ := by
  obtain ⟨rfl, hq, hk⟩ := h
  change okF (n + 1) cs set s tb at hq
  change κ (.v .bool (fnd (n + 1) cs set s tb).1) [.var (.pair (.sl T30) (.pair .ref .unit)) (cs, .sl 1 0 tb.length, ()) 103, .row (.int .u8) (fnd (n + 1) cs set s tb).2 5] at hk
  rw [fnd] at hk
  rw [okF] at hq
  obtain ⟨⟨q1, q2, q3⟩, q4⟩ := hq
  have q2' : atI cs set s < (tb.length : Int) := by omega
  refine ⟨q1, q2', q2, bif_i (fun e => ⟨q1, q2', q2, ?_, ?_, bif_i (fun e2 => ?_) (fun e2 => ?_)⟩) (fun e => ?_)⟩
  · rw [List.length_set, Nat.zero_add]; exact Nat.le_refl _
  · exact q3
  · rw [e, cond_true] at hk q4
    rw [t2, show F57.val (cs, [], ()) set = true from e2, cond_true] at hk q4
    obtain ⟨q5, q6⟩ := q4
    exact ⟨q1, q2', by rw [List.length_set]; exact q2, rfl, Int.le_refl 0, by omega, q3, q1, by rw [List.length_set, List.length_set], q5, q1, q2', Nat.lt_of_lt_of_eq q2 q6.symm, hk⟩
  · rw [e, cond_true] at hk q4
    rw [t2, show F57.val (cs, [], ()) set = false from e2, cond_false] at hk q4
    obtain ⟨q5, q6⟩ := q4
    exact ⟨rfl, Int.le_refl 0, by omega, q3, q1, by rw [List.length_set], q5, q1, q2', Nat.lt_of_lt_of_eq q2 q6.symm, hk⟩
  · rw [e, cond_false] at hk
    exact ⟨q1, q2', q2, hk⟩
theorem loopsOK (fu : FU) : LoopsOK (C fu) (callF fu) (bodyOf Try.f56) := loopsOK_seek (tbl := loops fu) (fun _ => rfl) (by kernel_rfl) (List.forall_mem_cons.2 ⟨mkL_ok (loop7 fu), fun _ h => nomatch h⟩)
theorem pursOK (fu : FU) : ∀ g ts F, (C fu).pur g = some (ts, F) → SoundP Try.prog g F := purOf_ok (l := purs) (List.forall_mem_cons.2 ⟨Go.Proofs.Ytdjdbjcapenjeaa.KE.F57.ok, List.forall_mem_cons.2 ⟨Go.Proofs.Ytdjdbjcapenjeaa.KE.F58.ok, fun _ h => nomatch h⟩⟩)
theorem cfsOK (fu : FU) (ih : SoundF Try.prog 56 (mkC decA stA (QAn fu))) : ∀ g, SoundF Try.prog g (callF fu g) := callsOK (l := [(56, mkC decA stA (QAn fu))]) (List.forall_mem_cons.2 ⟨ih, fun _ h => nomatch h⟩)
theorem okN : ∀ n : Nat, SoundF Try.prog 56 (mkC decA stA (QAn (FUof n)))
  | 0 => mkC_ok (F := fun _ _ _ => False) (soundF_none 56) (fun v κ h => QAn_zero v κ h)
  | n + 1 => mkC_ok (soundF_run (C := C (FUof n)) (callF := callF (FUof n)) (tabOK (C (FUof n)) rfl rfl rfl) (cfsOK (FUof n) (okN n)) (pursOK (FUof n)) Try.func56 (by kernel_rfl) (loopsOK (FUof n))) (by
    rintro ⟨set, s, cs, nt, tb⟩ κ hq
    show runFn (C (FUof n)) (callF (FUof n)) Try.f56 [.v .ref (.ptr 0 []), .v (.int .i64) set, .v (.int .i64) s] [.var (.pair (.sl T30) (.pair .ref .unit)) (cs, .sl 1 0 nt, ()) 103, .row (.int .u8) tb 5] κ
    rw [main]
    exact spec n set s cs nt tb κ hq)
noncomputable def cf : CF := mkC decA stA (QAn (FUof 40))
theorem ok : SoundF Try.prog 56 cf := okN _
end F56

end Go.Proofs.Ytdjdbjcapenjeaa.KF
