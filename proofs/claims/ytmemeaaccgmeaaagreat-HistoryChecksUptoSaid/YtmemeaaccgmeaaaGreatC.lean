/- Check of calls, program and document -/
import Derived.Test.YtmemeaaccgmeaaaGreatDxTab
import Derived.Test.YtmemeaaccgmeaaaGreatDx3
import Derived.Test.YtmemeaaccgmeaaaGreatDxTy
import Derived.Test.YtmemeaaccgmeaaaGreatB
import Derived.Test.YtmemeaaccgmeaaaGreatHP
import Derived.Test.YtmemeaaccgmeaaaGreatPB
import Derived.Test.YtmemeaaccgmeaaaGreatA
set_option linter.unusedVariables false
set_option maxRecDepth 100000
open Go Go.Proofs Go.Proofs.YtmemeaaccgmeaaaGreat.Dx Go.Proofs.YtmemeaaccgmeaaaGreat.Dx.TYtmemeaaccgmeaaaGreat
namespace Go.Proofs.YtmemeaaccgmeaaaGreat.C
open W A Y HP PB
theorem runP_two (P : Cl → Bool) : ∀ (l : List Cl) (i b : Int) (es : List (Int × Int)) (la : List Cl), runP P l i b es la = (0, 0) ∨ (runP P l i b es la).2 = 132
  | [], _, _, _, _ => .inl rfl
  | c :: r, i, b, es, la => by
    rw [runP]
    cases stopP P c b es la with
    | true => exact .inr rfl
    | false => exact runP_two P r _ _ _ _
theorem runD_two (P : Cl → Bool) (cs : List Cl) : ∀ l : List Nat, runQ P cs l = (0, 0) ∨ (runQ P cs l).2 = 132
  | [] => .inl rfl
  | i :: r => by
    rw [runQ]
    cases stopD P cs i with
    | true => exact .inr rfl
    | false => exact runD_two P cs r
namespace F12
abbrev V5 := Int × (List D74) × Int × Int × (List (Int × Int)) × (List D74)
noncomputable def st5 (v : V5) : St := ⟨[.dead, .dead, .dead, .dead, .v .ref (.mp 0), .v .ref (.ptr 1 []), .v (.int .i64) (v.1), .dead, .dead, .dead, .dead, .v (.sl T74) (v.2.1), .v (.int .i64) (v.2.2.1), .v (.int .i64) (v.2.2.2.1), .dead, .dead, .dead, .dead, .dead, .dead, .dead, .dead, .dead, .dead, .dead, .dead, .dead, .dead, .dead, .dead, .dead, .dead, .dead, .dead, .dead, .dead, .dead, .dead, .dead, .dead, .dead, .dead, .dead, .dead, .dead, .dead, .dead, .dead, .dead, .dead, .dead, .dead, .dead, .dead, .dead, .dead, .dead, .dead, .dead, .dead, .dead, .dead, .dead, .dead, .dead, .dead, .dead, .dead, .dead, .dead, .dead, .dead, .dead, .dead, .dead, .dead, .dead, .dead, .dead, .dead, .dead, .dead, .dead, .dead, .dead, .dead, .dead, .dead, .dead, .dead, .dead, .dead, .dead, .dead], [.map (.int .i64) (.int .i64) (v.2.2.2.2.1), .var (.arr 16 T74) (v.2.2.2.2.2) 100]⟩
noncomputable def dec5 (s : St) : Option V5 := match gV (.int .i64) (s.T.getD 6 .dead), gV (.sl T74) (s.T.getD 11 .dead), gV (.int .i64) (s.T.getD 12 .dead), gV (.int .i64) (s.T.getD 13 .dead), gMap (.int .i64) s.H[0]?, gVar (.arr 16 T74) s.H[1]? with | some a6, some a11, some a12, some a13, some b0, some b1 => some (a6, a11, a12, a13, b0, b1) | _, _, _, _, _, _ => none
noncomputable def keep5 : List Nat := [4, 5, 6, 11, 12, 13]
noncomputable def body5 : Code := bodyAt (loopsOf (bodyOf Tryz.f12)) 5
noncomputable def s0 (x2 : Int) (x3 : Int) : St := ⟨[.dead, .dead, .v (.int .i64) x2, .v (.int .i64) x3, .dead, .dead, .dead, .dead, .dead, .dead, .dead, .dead, .dead, .dead, .dead, .dead, .dead, .dead, .dead, .dead, .dead, .dead, .dead, .dead, .dead, .dead, .dead, .dead, .dead, .dead, .dead, .dead, .dead, .dead, .dead, .dead, .dead, .dead, .dead, .dead, .dead, .dead, .dead, .dead, .dead, .dead, .dead, .dead, .dead, .dead, .dead, .dead, .dead, .dead, .dead, .dead, .dead, .dead, .dead, .dead, .dead, .dead, .dead, .dead, .dead, .dead, .dead, .dead, .dead, .dead, .dead, .dead, .dead, .dead, .dead, .dead, .dead, .dead, .dead, .dead, .dead, .dead, .dead, .dead, .dead, .dead, .dead, .dead, .dead, .dead, .dead, .dead, .dead, .dead], []⟩
noncomputable def s1 (h0 : (List (Int × Int))) (h1 : (List D74)) : St := ⟨[.dead, .dead, .dead, .dead, .dead, .dead, .dead, .dead, .dead, .dead, .dead, .dead, .dead, .dead, .dead, .dead, .dead, .dead, .dead, .dead, .dead, .dead, .dead, .dead, .dead, .dead, .dead, .dead, .dead, .dead, .dead, .dead, .dead, .dead, .dead, .dead, .dead, .dead, .dead, .dead, .dead, .dead, .dead, .dead, .dead, .dead, .dead, .dead, .dead, .dead, .dead, .dead, .dead, .dead, .dead, .dead, .dead, .dead, .dead, .dead, .dead, .dead, .dead, .dead, .dead, .dead, .dead, .dead, .dead, .dead, .dead, .dead, .dead, .dead, .dead, .dead, .dead, .dead, .dead, .dead, .dead, .dead, .dead, .dead, .dead, .dead, .dead, .dead, .dead, .dead, .dead, .dead, .dead, .dead], [.map (.int .i64) (.int .i64) h0, .var (.arr 16 T74) h1 100]⟩
def Q5 : V5 → (Nat → St → Prop) → (St → Prop) → Prop := fun (b, cs, n, i, es, la) X R => 0 ≤ i ∧ i ≤ cs.length ∧ cs.length ≤ LB ∧ n = cs.length ∧ la.length = 16 ∧ (∀ c ∈ cs, B.F45.Pre c) ∧
  bif (runP possible (cs.drop i.toNat) i b es la).2 == 0 then (∀ (e : List (Int × Int)) (l : List Cl), X 0 (s1 e l)) else R (s0 (runP possible (cs.drop i.toNat) i b es la).1 132)
noncomputable def purs : List (Nat × (List Ty × (List AV → PV))) := [(45, (Go.Proofs.YtmemeaaccgmeaaaGreat.B.F45.ts, Go.Proofs.YtmemeaaccgmeaaaGreat.B.F45.G))]
noncomputable def callF (g : FuncId) : CF := fun _ _ _ => False
noncomputable def L5 : K → Nat → St → Prop := mkL dec5 st5 0 2 [] Q5
noncomputable def loops : List (Nat × (List Nat × (K → Nat → St → Prop))) := [(5, (keep5, L5))]
noncomputable def C : Ctx := { ti := ti, meth := meth, can := can, pur := purOf purs, loops := fun i => seek loops i, gh := fun _ => [], xk := fun i => seek [(0, ([], 0))] i, rk := some ([2, 3], 0) }
noncomputable def Round5 (x6 : Int) (x11 : (List D74)) (x12 : Int) (x13 : Int) (h0 : (List (Int × Int))) (h1 : (List D74)) (N : St → Prop) (X : Nat → St → Prop) (R : St → Prop) : Prop :=
  (bif decide (x13 < x12) then (((0 : Int) ≤ x13) ∧ ((x13 < (↑x11.length : Int)) ∧ ((B.F45.Pre (x11.getD x13.toNat d74)) ∧ (bif !B.F45.val (x11.getD x13.toNat d74) then R (s0 (x13) ((132 : Int))) else (bif decide ((x11.getD x13.toNat d74).snd.snd.snd.snd.snd.fst ≤ x6) then R (s0 (x13) ((132 : Int))) else (bif decide (lookA (0 : Int) h0 (x11.getD x13.toNat d74).snd.snd.snd.snd.snd.fst > (0 : Int)) then R (s0 (x13) ((132 : Int))) else (bif decide (lookA (0 : Int) h0 (x11.getD x13.toNat d74).snd.snd.snd.snd.snd.snd.fst > (0 : Int)) then (bif decide ((x11.getD x13.toNat d74).snd.snd.snd.snd.snd.snd.fst ≥ (0 : Int)) then R (s0 (x13) ((132 : Int))) else (((0 : Int) ≤ IntKind.u8.wrap ((x11.getD x13.toNat d74).fst - (16 : Int))) ∧ ((IntKind.u8.wrap ((x11.getD x13.toNat d74).fst - (16 : Int)) < (↑(16 : Nat) : Int)) ∧ (((IntKind.u8.wrap ((x11.getD x13.toNat d74).fst - (16 : Int))).toNat < h1.length) ∧ (bif decide ((x11.getD x13.toNat d74).snd.fst ≤ (h1.getD (IntKind.u8.wrap ((x11.getD x13.toNat d74).fst - (16 : Int))).toNat d74).snd.fst) then R (s0 (x13) ((132 : Int))) else (((IntKind.u8.wrap ((x11.getD x13.toNat d74).fst - (16 : Int))).toNat < h1.length) ∧ (bif decide ((h1.getD (IntKind.u8.wrap ((x11.getD x13.toNat d74).fst - (16 : Int))).toNat d74).snd.fst > (0 : Int)) then (((IntKind.u8.wrap ((x11.getD x13.toNat d74).fst - (16 : Int))).toNat < h1.length) ∧ (bif decide ((h1.getD (IntKind.u8.wrap ((x11.getD x13.toNat d74).fst - (16 : Int))).toNat d74).snd.snd.snd.snd.snd.snd.fst ≥ (x11.getD x13.toNat d74).snd.snd.snd.snd.snd.fst) then R (s0 (x13) ((132 : Int))) else (((IntKind.u8.wrap ((x11.getD x13.toNat d74).fst - (16 : Int))).toNat < h1.length) ∧ (bif decide ((x11.getD x13.toNat d74).snd.snd.snd.snd.snd.snd.fst ≥ (0 : Int)) then N (st5 ((x11.getD x13.toNat d74).snd.snd.snd.snd.snd.fst, x11, x12, IntKind.i64.wrap (x13 + (1 : Int)), setA (setA h0 (x11.getD x13.toNat d74).snd.snd.snd.snd.snd.fst (IntKind.i64.wrap (lookA (0 : Int) h0 (x11.getD x13.toNat d74).snd.snd.snd.snd.snd.fst + (1 : Int)))) (x11.getD x13.toNat d74).snd.snd.snd.snd.snd.snd.fst (IntKind.i64.wrap (lookA (0 : Int) (setA h0 (x11.getD x13.toNat d74).snd.snd.snd.snd.snd.fst (IntKind.i64.wrap (lookA (0 : Int) h0 (x11.getD x13.toNat d74).snd.snd.snd.snd.snd.fst + (1 : Int)))) (x11.getD x13.toNat d74).snd.snd.snd.snd.snd.snd.fst + (1 : Int))), h1.set (IntKind.u8.wrap ((x11.getD x13.toNat d74).fst - (16 : Int))).toNat (x11.getD x13.toNat d74))) else N (st5 ((x11.getD x13.toNat d74).snd.snd.snd.snd.snd.fst, x11, x12, IntKind.i64.wrap (x13 + (1 : Int)), setA h0 (x11.getD x13.toNat d74).snd.snd.snd.snd.snd.fst (IntKind.i64.wrap (lookA (0 : Int) h0 (x11.getD x13.toNat d74).snd.snd.snd.snd.snd.fst + (1 : Int))), h1.set (IntKind.u8.wrap ((x11.getD x13.toNat d74).fst - (16 : Int))).toNat (x11.getD x13.toNat d74))))))) else (((IntKind.u8.wrap ((x11.getD x13.toNat d74).fst - (16 : Int))).toNat < h1.length) ∧ (bif decide ((x11.getD x13.toNat d74).snd.snd.snd.snd.snd.snd.fst ≥ (0 : Int)) then N (st5 ((x11.getD x13.toNat d74).snd.snd.snd.snd.snd.fst, x11, x12, IntKind.i64.wrap (x13 + (1 : Int)), setA (setA h0 (x11.getD x13.toNat d74).snd.snd.snd.snd.snd.fst (IntKind.i64.wrap (lookA (0 : Int) h0 (x11.getD x13.toNat d74).snd.snd.snd.snd.snd.fst + (1 : Int)))) (x11.getD x13.toNat d74).snd.snd.snd.snd.snd.snd.fst (IntKind.i64.wrap (lookA (0 : Int) (setA h0 (x11.getD x13.toNat d74).snd.snd.snd.snd.snd.fst (IntKind.i64.wrap (lookA (0 : Int) h0 (x11.getD x13.toNat d74).snd.snd.snd.snd.snd.fst + (1 : Int)))) (x11.getD x13.toNat d74).snd.snd.snd.snd.snd.snd.fst + (1 : Int))), h1.set (IntKind.u8.wrap ((x11.getD x13.toNat d74).fst - (16 : Int))).toNat (x11.getD x13.toNat d74))) else N (st5 ((x11.getD x13.toNat d74).snd.snd.snd.snd.snd.fst, x11, x12, IntKind.i64.wrap (x13 + (1 : Int)), setA h0 (x11.getD x13.toNat d74).snd.snd.snd.snd.snd.fst (IntKind.i64.wrap (lookA (0 : Int) h0 (x11.getD x13.toNat d74).snd.snd.snd.snd.snd.fst + (1 : Int))), h1.set (IntKind.u8.wrap ((x11.getD x13.toNat d74).fst - (16 : Int))).toNat (x11.getD x13.toNat d74)))))))))))) else (((0 : Int) ≤ IntKind.u8.wrap ((x11.getD x13.toNat d74).fst - (16 : Int))) ∧ ((IntKind.u8.wrap ((x11.getD x13.toNat d74).fst - (16 : Int)) < (↑(16 : Nat) : Int)) ∧ (((IntKind.u8.wrap ((x11.getD x13.toNat d74).fst - (16 : Int))).toNat < h1.length) ∧ (bif decide ((x11.getD x13.toNat d74).snd.fst ≤ (h1.getD (IntKind.u8.wrap ((x11.getD x13.toNat d74).fst - (16 : Int))).toNat d74).snd.fst) then R (s0 (x13) ((132 : Int))) else (((IntKind.u8.wrap ((x11.getD x13.toNat d74).fst - (16 : Int))).toNat < h1.length) ∧ (bif decide ((h1.getD (IntKind.u8.wrap ((x11.getD x13.toNat d74).fst - (16 : Int))).toNat d74).snd.fst > (0 : Int)) then (((IntKind.u8.wrap ((x11.getD x13.toNat d74).fst - (16 : Int))).toNat < h1.length) ∧ (bif decide ((h1.getD (IntKind.u8.wrap ((x11.getD x13.toNat d74).fst - (16 : Int))).toNat d74).snd.snd.snd.snd.snd.snd.fst ≥ (x11.getD x13.toNat d74).snd.snd.snd.snd.snd.fst) then R (s0 (x13) ((132 : Int))) else (((IntKind.u8.wrap ((x11.getD x13.toNat d74).fst - (16 : Int))).toNat < h1.length) ∧ (bif decide ((x11.getD x13.toNat d74).snd.snd.snd.snd.snd.snd.fst ≥ (0 : Int)) then N (st5 ((x11.getD x13.toNat d74).snd.snd.snd.snd.snd.fst, x11, x12, IntKind.i64.wrap (x13 + (1 : Int)), setA (setA h0 (x11.getD x13.toNat d74).snd.snd.snd.snd.snd.fst (IntKind.i64.wrap (lookA (0 : Int) h0 (x11.getD x13.toNat d74).snd.snd.snd.snd.snd.fst + (1 : Int)))) (x11.getD x13.toNat d74).snd.snd.snd.snd.snd.snd.fst (IntKind.i64.wrap (lookA (0 : Int) (setA h0 (x11.getD x13.toNat d74).snd.snd.snd.snd.snd.fst (IntKind.i64.wrap (lookA (0 : Int) h0 (x11.getD x13.toNat d74).snd.snd.snd.snd.snd.fst + (1 : Int)))) (x11.getD x13.toNat d74).snd.snd.snd.snd.snd.snd.fst + (1 : Int))), h1.set (IntKind.u8.wrap ((x11.getD x13.toNat d74).fst - (16 : Int))).toNat (x11.getD x13.toNat d74))) else N (st5 ((x11.getD x13.toNat d74).snd.snd.snd.snd.snd.fst, x11, x12, IntKind.i64.wrap (x13 + (1 : Int)), setA h0 (x11.getD x13.toNat d74).snd.snd.snd.snd.snd.fst (IntKind.i64.wrap (lookA (0 : Int) h0 (x11.getD x13.toNat d74).snd.snd.snd.snd.snd.fst + (1 : Int))), h1.set (IntKind.u8.wrap ((x11.getD x13.toNat d74).fst - (16 : Int))).toNat (x11.getD x13.toNat d74))))))) else (((IntKind.u8.wrap ((x11.getD x13.toNat d74).fst - (16 : Int))).toNat < h1.length) ∧ (bif decide ((x11.getD x13.toNat d74).snd.snd.snd.snd.snd.snd.fst ≥ (0 : Int)) then N (st5 ((x11.getD x13.toNat d74).snd.snd.snd.snd.snd.fst, x11, x12, IntKind.i64.wrap (x13 + (1 : Int)), setA (setA h0 (x11.getD x13.toNat d74).snd.snd.snd.snd.snd.fst (IntKind.i64.wrap (lookA (0 : Int) h0 (x11.getD x13.toNat d74).snd.snd.snd.snd.snd.fst + (1 : Int)))) (x11.getD x13.toNat d74).snd.snd.snd.snd.snd.snd.fst (IntKind.i64.wrap (lookA (0 : Int) (setA h0 (x11.getD x13.toNat d74).snd.snd.snd.snd.snd.fst (IntKind.i64.wrap (lookA (0 : Int) h0 (x11.getD x13.toNat d74).snd.snd.snd.snd.snd.fst + (1 : Int)))) (x11.getD x13.toNat d74).snd.snd.snd.snd.snd.snd.fst + (1 : Int))), h1.set (IntKind.u8.wrap ((x11.getD x13.toNat d74).fst - (16 : Int))).toNat (x11.getD x13.toNat d74))) else N (st5 ((x11.getD x13.toNat d74).snd.snd.snd.snd.snd.fst, x11, x12, IntKind.i64.wrap (x13 + (1 : Int)), setA h0 (x11.getD x13.toNat d74).snd.snd.snd.snd.snd.fst (IntKind.i64.wrap (lookA (0 : Int) h0 (x11.getD x13.toNat d74).snd.snd.snd.snd.snd.fst + (1 : Int))), h1.set (IntKind.u8.wrap ((x11.getD x13.toNat d74).fst - (16 : Int))).toNat (x11.getD x13.toNat d74)))))))))))))))))) else X 0 (s1 (h0) (h1)))
theorem round5 (x6 : Int) (x11 : (List D74)) (x12 : Int) (x13 : Int) (h0 : (List (Int × Int))) (h1 : (List D74)) (N : St → Prop) (X : Nat → St → Prop) (R : St → Prop) : exec C callF body5 ⟨0, [2], fun s' => cond (Nat.ble 2 s'.H.length) (N (scrub keep5 2 s')) False, X, R⟩ (st5 (x6, x11, x12, x13, h0, h1)) = Round5 x6 x11 x12 x13 h0 h1 N X R := by kernel_rfl
noncomputable def Main (calls : (List D74)) (k : AV → Prop) : Prop :=
  (st5 ((-1 : Int), calls, (↑calls.length : Int), (0 : Int), [], (Ty.arr (16 : Nat) ((Ty.int IntKind.u8).pair ((Ty.int IntKind.u64).pair (((Ty.int IntKind.u8).pair ((Ty.int IntKind.u64).pair ((Ty.int IntKind.u64).pair ((Ty.int IntKind.u8).sl.pair ((Ty.int IntKind.u8).sl.pair (Ty.bool.pair ((Ty.int IntKind.u8).pair Ty.unit))))))).pair ((Ty.int IntKind.u8).pair ((Ty.int IntKind.u8).sl.pair ((Ty.int IntKind.i64).pair ((Ty.int IntKind.i64).pair Ty.unit)))))))).dflt) = st5 ((-1 : Int), calls, (↑calls.length : Int), (0 : Int), [], (Ty.arr (16 : Nat) ((Ty.int IntKind.u8).pair ((Ty.int IntKind.u64).pair (((Ty.int IntKind.u8).pair ((Ty.int IntKind.u64).pair ((Ty.int IntKind.u64).pair ((Ty.int IntKind.u8).sl.pair ((Ty.int IntKind.u8).sl.pair (Ty.bool.pair ((Ty.int IntKind.u8).pair Ty.unit))))))).pair ((Ty.int IntKind.u8).pair ((Ty.int IntKind.u8).sl.pair ((Ty.int IntKind.i64).pair ((Ty.int IntKind.i64).pair Ty.unit)))))))).dflt) ∧ (((0 : Int) ≤ (0 : Int)) ∧ (((0 : Int) ≤ (↑calls.length : Int)) ∧ ((calls.length ≤ LB) ∧ (((↑calls.length : Int) = (↑calls.length : Int)) ∧ ((List.length (Ty.arr (16 : Nat) ((Ty.int IntKind.u8).pair ((Ty.int IntKind.u64).pair (((Ty.int IntKind.u8).pair ((Ty.int IntKind.u64).pair ((Ty.int IntKind.u64).pair ((Ty.int IntKind.u8).sl.pair ((Ty.int IntKind.u8).sl.pair (Ty.bool.pair ((Ty.int IntKind.u8).pair Ty.unit))))))).pair ((Ty.int IntKind.u8).pair ((Ty.int IntKind.u8).sl.pair ((Ty.int IntKind.i64).pair ((Ty.int IntKind.i64).pair Ty.unit)))))))).dflt = (16 : Nat)) ∧ ((∀ (c : D74), c ∈ calls → B.F45.Pre c) ∧ (bif (runP possible calls (0 : Int) (-1 : Int) [] (Ty.arr (16 : Nat) ((Ty.int IntKind.u8).pair ((Ty.int IntKind.u64).pair (((Ty.int IntKind.u8).pair ((Ty.int IntKind.u64).pair ((Ty.int IntKind.u64).pair ((Ty.int IntKind.u8).sl.pair ((Ty.int IntKind.u8).sl.pair (Ty.bool.pair ((Ty.int IntKind.u8).pair Ty.unit))))))).pair ((Ty.int IntKind.u8).pair ((Ty.int IntKind.u8).sl.pair ((Ty.int IntKind.i64).pair ((Ty.int IntKind.i64).pair Ty.unit)))))))).dflt).snd == (0 : Int) then (∀ q2 : List (Int × Int), (∀ q3 : List Cl, k (.tup [⟨(.int .i64), ((0 : Int))⟩, ⟨(.int .i64), ((0 : Int))⟩]))) else k (.tup [⟨(.int .i64), ((runP possible calls (0 : Int) (-1 : Int) [] (Ty.arr (16 : Nat) ((Ty.int IntKind.u8).pair ((Ty.int IntKind.u64).pair (((Ty.int IntKind.u8).pair ((Ty.int IntKind.u64).pair ((Ty.int IntKind.u64).pair ((Ty.int IntKind.u8).sl.pair ((Ty.int IntKind.u8).sl.pair (Ty.bool.pair ((Ty.int IntKind.u8).pair Ty.unit))))))).pair ((Ty.int IntKind.u8).pair ((Ty.int IntKind.u8).sl.pair ((Ty.int IntKind.i64).pair ((Ty.int IntKind.i64).pair Ty.unit)))))))).dflt).fst)⟩, ⟨(.int .i64), ((132 : Int))⟩])))))))))
theorem main (calls : (List D74)) (k : AV → Prop) : (runFn C callF Tryz.f12 [.v (.sl (.pair (.int .u8) (.pair (.int .u64) (.pair (.pair (.int .u8) (.pair (.int .u64) (.pair (.int .u64) (.pair (.sl (.int .u8)) (.pair (.sl (.int .u8)) (.pair .bool (.pair (.int .u8) .unit))))))) (.pair (.int .u8) (.pair (.sl (.int .u8)) (.pair (.int .i64) (.pair (.int .i64) .unit)))))))) calls] [] (fun r H => coRes H [(.int .i64), (.int .i64)] r k)) = Main calls k := by kernel_rfl
theorem loop5 (v : V5) (X : Nat → St → Prop) (R : St → Prop) : Q5 v X R → ∃ m, loopN C callF keep5 2 body5 ⟨0, [], fun _ => False, X, R⟩ m (st5 v) := by
  refine loop_ind (fun v => Q5 v X R) (fun (b, cs, n, i, es, la) => cs.length - i.toNat) ?_ v
  rintro ⟨b, cs, n, i, es, la⟩ ⟨h0, h1, h2, rfl, hla, hm, h4⟩ N hN
  rw [round5]
  obtain ⟨j, rfl⟩ : ∃ a : Nat, i = a := ⟨i.toNat, by omega⟩
  dsimp only at hN
  rw [Int.toNat_natCast] at h4
  have h2' : cs.length ≤ 1073741824 := h2
  refine bif_d (fun hj => ?_) (fun hj => ?_)
  · have hn : j < cs.length := by omega
    rw [drop_cons hn c0, runP] at h4
    rw [Int.toNat_natCast, w64n (by omega)]
    have hpre := hm _ (getD_mem hn c0)
    have hstop : stopP possible (cs.getD j c0) b es la = true → R (s0 j 132) := fun e => by rw [e, cond_true] at h4; exact h4
    have hgo : stopP possible (cs.getD j c0) b es la = false → N (st5 (bg (cs.getD j c0), cs, (cs.length : Int), ((j + 1 : Nat) : Int), (bif decide (en (cs.getD j c0) ≥ 0) then esE (cs.getD j c0) (esB (cs.getD j c0) es) else esB (cs.getD j c0) es), la.set (wi (cs.getD j c0)) (cs.getD j c0))) := fun e => by
      rw [e, cond_false] at h4
      exact hN (bg (cs.getD j c0), cs, (cs.length : Int), ((j + 1 : Nat) : Int), (bif decide (en (cs.getD j c0) ≥ 0) then esE (cs.getD j c0) (esB (cs.getD j c0) es) else esB (cs.getD j c0) es), la.set (wi (cs.getD j c0)) (cs.getD j c0)) ⟨by omega, by omega, h2, rfl, by rw [List.length_set]; exact hla, hm, by rw [Int.toNat_natCast, Int.natCast_add]; exact h4⟩ (by dsimp only; omega)
    refine ⟨by omega, by omega, hpre, bif_i (fun a => hstop (by unfold stopP; rw [show (!possible (cs.getD j c0)) = true from a]; rfl)) (fun a => ?_)⟩
    have a : (!possible (cs.getD j c0)) = false := a
    have f := fit (cs.getD j c0) (by simpa using a)
    have ix : 0 ≤ IntKind.u8.wrap ((cs.getD j c0).1 - 16) ∧ IntKind.u8.wrap ((cs.getD j c0).1 - 16) < 16 := by
      have e1 : 16 ≤ (cs.getD j c0).1 := f.w1
      have e2 : (cs.getD j c0).1 ≤ 31 := f.w2
      have : IntKind.u8.wrap ((cs.getD j c0).1 - 16) = (cs.getD j c0).1 - 16 := by
        show ((cs.getD j c0).1 - 16) % 256 = (cs.getD j c0).1 - 16
        omega
      rw [this]; omega
    refine bif_d (fun b1 => hstop (by unfold stopP; rw [a, show decide (bg (cs.getD j c0) ≤ b) = true from decide_eq_true b1]; rfl)) (fun b1 => bif_d (fun b2 => hstop (by unfold stopP; rw [a, show decide (bg (cs.getD j c0) ≤ b) = false from decide_eq_false b1, show decide (lookA 0 es (bg (cs.getD j c0)) > 0) = true from decide_eq_true b2]; rfl)) (fun b2 => ?_))
    have b1 : ¬ bg (cs.getD j c0) ≤ b := b1
    have b2 : ¬ lookA 0 es (bg (cs.getD j c0)) > 0 := b2
    refine bif_d (fun b3 => bif_d (fun b4 => hstop (by unfold stopP; rw [a, decide_eq_false b1, decide_eq_false b2, show decide (lookA 0 es (en (cs.getD j c0)) > 0) = true from decide_eq_true b3, show decide (en (cs.getD j c0) ≥ 0) = true from decide_eq_true b4]; rfl)) (fun b4 => ?_)) (fun b3 => ?_)
    · have hE : (decide (lookA 0 es (en (cs.getD j c0)) > 0) && decide (en (cs.getD j c0) ≥ 0)) = false := by rw [show decide (en (cs.getD j c0) ≥ 0) = false from decide_eq_false b4, Bool.and_false]
      have i0 : 0 ≤ IntKind.u8.wrap ((cs.getD j c0).1 - 16) := ix.1
      have i1 : IntKind.u8.wrap ((cs.getD j c0).1 - 16) < 16 := ix.2
      have i2 : (IntKind.u8.wrap ((cs.getD j c0).1 - 16)).toNat < la.length := by rw [hla]; omega
      refine ⟨i0, i1, i2, bif_d (fun d1 => hstop (by unfold stopP; rw [a, decide_eq_false b1, decide_eq_false b2, hE, show decide (sq (cs.getD j c0) ≤ sq (la.getD (wi (cs.getD j c0)) c0)) = true from decide_eq_true d1]; rfl)) (fun d1 => ⟨i2, bif_d (fun d2 => ⟨i2, bif_d (fun d3 => hstop (by unfold stopP; rw [a, decide_eq_false b1, decide_eq_false b2, hE, show decide (sq (cs.getD j c0) ≤ sq (la.getD (wi (cs.getD j c0)) c0)) = false from decide_eq_false d1, show decide (sq (la.getD (wi (cs.getD j c0)) c0) > 0) = true from decide_eq_true d2, show decide (en (la.getD (wi (cs.getD j c0)) c0) ≥ bg (cs.getD j c0)) = true from decide_eq_true d3]; rfl)) (fun d3 => ⟨i2, ?_⟩)⟩) (fun d2 => ⟨i2, ?_⟩)⟩)⟩
      · have hs : stopP possible (cs.getD j c0) b es la = false := by unfold stopP; rw [a, decide_eq_false b1, decide_eq_false b2, hE, show decide (sq (cs.getD j c0) ≤ sq (la.getD (wi (cs.getD j c0)) c0)) = false from decide_eq_false d1, show decide (en (la.getD (wi (cs.getD j c0)) c0) ≥ bg (cs.getD j c0)) = false from decide_eq_false d3, Bool.and_false]; rfl
        have go := hgo hs
        refine bif_d (fun e => ?_) (fun e => ?_)
        · rw [show decide (en (cs.getD j c0) ≥ 0) = true from decide_eq_true e, cond_true] at go; exact go
        · rw [show decide (en (cs.getD j c0) ≥ 0) = false from decide_eq_false e, cond_false] at go; exact go
      · have hs : stopP possible (cs.getD j c0) b es la = false := by unfold stopP; rw [a, decide_eq_false b1, decide_eq_false b2, hE, show decide (sq (cs.getD j c0) ≤ sq (la.getD (wi (cs.getD j c0)) c0)) = false from decide_eq_false d1, show decide (sq (la.getD (wi (cs.getD j c0)) c0) > 0) = false from decide_eq_false d2, Bool.false_and]; rfl
        have go := hgo hs
        refine bif_d (fun e => ?_) (fun e => ?_)
        · rw [show decide (en (cs.getD j c0) ≥ 0) = true from decide_eq_true e, cond_true] at go; exact go
        · rw [show decide (en (cs.getD j c0) ≥ 0) = false from decide_eq_false e, cond_false] at go; exact go
    · have hE : (decide (lookA 0 es (en (cs.getD j c0)) > 0) && decide (en (cs.getD j c0) ≥ 0)) = false := by rw [show decide (lookA 0 es (en (cs.getD j c0)) > 0) = false from decide_eq_false b3, Bool.false_and]
      have i0 : 0 ≤ IntKind.u8.wrap ((cs.getD j c0).1 - 16) := ix.1
      have i1 : IntKind.u8.wrap ((cs.getD j c0).1 - 16) < 16 := ix.2
      have i2 : (IntKind.u8.wrap ((cs.getD j c0).1 - 16)).toNat < la.length := by rw [hla]; omega
      refine ⟨i0, i1, i2, bif_d (fun d1 => hstop (by unfold stopP; rw [a, decide_eq_false b1, decide_eq_false b2, hE, show decide (sq (cs.getD j c0) ≤ sq (la.getD (wi (cs.getD j c0)) c0)) = true from decide_eq_true d1]; rfl)) (fun d1 => ⟨i2, bif_d (fun d2 => ⟨i2, bif_d (fun d3 => hstop (by unfold stopP; rw [a, decide_eq_false b1, decide_eq_false b2, hE, show decide (sq (cs.getD j c0) ≤ sq (la.getD (wi (cs.getD j c0)) c0)) = false from decide_eq_false d1, show decide (sq (la.getD (wi (cs.getD j c0)) c0) > 0) = true from decide_eq_true d2, show decide (en (la.getD (wi (cs.getD j c0)) c0) ≥ bg (cs.getD j c0)) = true from decide_eq_true d3]; rfl)) (fun d3 => ⟨i2, ?_⟩)⟩) (fun d2 => ⟨i2, ?_⟩)⟩)⟩
      · have hs : stopP possible (cs.getD j c0) b es la = false := by unfold stopP; rw [a, decide_eq_false b1, decide_eq_false b2, hE, show decide (sq (cs.getD j c0) ≤ sq (la.getD (wi (cs.getD j c0)) c0)) = false from decide_eq_false d1, show decide (en (la.getD (wi (cs.getD j c0)) c0) ≥ bg (cs.getD j c0)) = false from decide_eq_false d3, Bool.and_false]; rfl
        have go := hgo hs
        refine bif_d (fun e => ?_) (fun e => ?_)
        · rw [show decide (en (cs.getD j c0) ≥ 0) = true from decide_eq_true e, cond_true] at go; exact go
        · rw [show decide (en (cs.getD j c0) ≥ 0) = false from decide_eq_false e, cond_false] at go; exact go
      · have hs : stopP possible (cs.getD j c0) b es la = false := by unfold stopP; rw [a, decide_eq_false b1, decide_eq_false b2, hE, show decide (sq (cs.getD j c0) ≤ sq (la.getD (wi (cs.getD j c0)) c0)) = false from decide_eq_false d1, show decide (sq (la.getD (wi (cs.getD j c0)) c0) > 0) = false from decide_eq_false d2, Bool.false_and]; rfl
        have go := hgo hs
        refine bif_d (fun e => ?_) (fun e => ?_)
        · rw [show decide (en (cs.getD j c0) ≥ 0) = true from decide_eq_true e, cond_true] at go; exact go
        · rw [show decide (en (cs.getD j c0) ≥ 0) = false from decide_eq_false e, cond_false] at go; exact go
  · rw [List.drop_eq_nil_of_le (by omega), runP] at h4
    exact h4 es la
theorem spec (cs : List Cl) (k : AV → Prop) (h : AllP [cs.length ≤ LB, ∀ c ∈ cs, B.F45.Pre c]) (hk : k (.tup [⟨.int .i64, (runP possible cs 0 (-1) [] (List.replicate 16 c0)).1⟩, ⟨.int .i64, (runP possible cs 0 (-1) [] (List.replicate 16 c0)).2⟩])) : Main cs k := by
  refine ⟨rfl, by omega, by omega, h.1, rfl, rfl, h.2.1, ?_⟩
  show bif (runP possible cs 0 (-1) [] (List.replicate 16 c0)).2 == 0 then _ else _
  rcases runP_two possible cs 0 (-1) [] (List.replicate 16 c0) with e | e
  · rw [e] at hk ⊢
    exact fun _ _ => hk
  · rw [e] at hk
    rw [e]
    exact hk
noncomputable def ts : List Ty := [(.sl T74)]
noncomputable def G : List AV → PV := pg1 (.sl T74) (fun calls => [calls.length ≤ LB, ∀ c ∈ calls, B.F45.Pre c]) (fun calls => .tup [⟨.int .i64, (runP possible calls 0 (-1) [] (List.replicate 16 c0)).1⟩, ⟨.int .i64, (runP possible calls 0 (-1) [] (List.replicate 16 c0)).2⟩])
theorem loopsOK : LoopsOK C callF (bodyOf Tryz.f12) := loopsOK_seek (tbl := loops) (fun _ => rfl) (by kernel_rfl) (List.forall_mem_cons.2 ⟨mkL_ok loop5, fun _ h => nomatch h⟩)
theorem pursOK : ∀ g ts F, C.pur g = some (ts, F) → SoundP Tryz.prog g F := purOf_ok (l := purs) (List.forall_mem_cons.2 ⟨Go.Proofs.YtmemeaaccgmeaaaGreat.B.F45.ok, fun _ h => nomatch h⟩)
theorem cfsOK : ∀ g, SoundF Tryz.prog g (callF g) := fun g => soundF_none g
theorem ok : SoundP Tryz.prog 12 G := by
  unfold G
  refine soundP_pg1 (soundF_run (C := C) (callF := callF) (tabOK C rfl rfl rfl) cfsOK pursOK Tryz.func12 (by kernel_rfl) loopsOK) [(.int .i64), (.int .i64)] fun calls h => ?_
  rw [main]
  exact spec calls _ h rfl
end F12
namespace F13
abbrev V2 := (List D74) × Int
noncomputable def st2 (v : V2) : St := ⟨[.v (.sl T74) (v.1), .dead, .dead, .dead, .v (.int .i64) (v.2), .dead, .dead, .dead, .dead, .dead, .dead, .dead, .dead, .dead, .dead, .dead, .dead, .dead, .dead, .dead, .dead, .dead, .dead, .dead, .dead, .dead, .dead, .dead, .dead, .dead, .dead, .dead, .dead, .dead, .dead, .dead, .dead, .dead], []⟩
noncomputable def dec2 (s : St) : Option V2 := match gV (.sl T74) (s.T.getD 0 .dead), gV (.int .i64) (s.T.getD 4 .dead) with | some a0, some a4 => some (a0, a4) | _, _ => none
noncomputable def keep2 : List Nat := [0, 4]
noncomputable def body2 : Code := bodyAt (loopsOf (bodyOf Tryz.f13)) 2
abbrev V8 := (List D74) × Int × Int
noncomputable def st8 (v : V8) : St := ⟨[.v (.sl T74) (v.1), .dead, .dead, .dead, .v (.int .i64) (v.2.1), .dead, .v (.int .i64) (v.2.2), .dead, .dead, .dead, .dead, .dead, .dead, .dead, .dead, .dead, .dead, .dead, .dead, .dead, .dead, .dead, .dead, .dead, .dead, .dead, .dead, .dead, .dead, .dead, .dead, .dead, .dead, .dead, .dead, .dead, .dead, .dead], []⟩
noncomputable def dec8 (s : St) : Option V8 := match gV (.sl T74) (s.T.getD 0 .dead), gV (.int .i64) (s.T.getD 4 .dead), gV (.int .i64) (s.T.getD 6 .dead) with | some a0, some a4, some a6 => some (a0, a4, a6) | _, _, _ => none
noncomputable def keep8 : List Nat := [0, 4, 6]
noncomputable def body8 : Code := bodyAt (loopsOf (bodyOf Tryz.f13)) 8
noncomputable def s0 (x2 : Int) (x3 : Int) : St := ⟨[.dead, .dead, .v (.int .i64) x2, .v (.int .i64) x3, .dead, .dead, .dead, .dead, .dead, .dead, .dead, .dead, .dead, .dead, .dead, .dead, .dead, .dead, .dead, .dead, .dead, .dead, .dead, .dead, .dead, .dead, .dead, .dead, .dead, .dead, .dead, .dead, .dead, .dead, .dead, .dead, .dead, .dead], []⟩
noncomputable def s1 : St := ⟨[.dead, .dead, .dead, .dead, .dead, .dead, .dead, .dead, .dead, .dead, .dead, .dead, .dead, .dead, .dead, .dead, .dead, .dead, .dead, .dead, .dead, .dead, .dead, .dead, .dead, .dead, .dead, .dead, .dead, .dead, .dead, .dead, .dead, .dead, .dead, .dead, .dead, .dead], []⟩
noncomputable def s2 (x0 : (List D74)) (x4 : Int) : St := ⟨[.v (.sl T74) x0, .dead, .dead, .dead, .v (.int .i64) x4, .dead, .dead, .dead, .dead, .dead, .dead, .dead, .dead, .dead, .dead, .dead, .dead, .dead, .dead, .dead, .dead, .dead, .dead, .dead, .dead, .dead, .dead, .dead, .dead, .dead, .dead, .dead, .dead, .dead, .dead, .dead, .dead, .dead], []⟩
def Q8 : V8 → (Nat → St → Prop) → (St → Prop) → Prop := fun (cs, i, k) X R => 0 ≤ k ∧ k ≤ i ∧ i < cs.length ∧ cs.length ≤ LB ∧
  bif (List.range' k.toNat (i.toNat - k.toNat)).any (fun k => clash (cs.getD k c0) (cs.getD i.toNat c0)) then R (s0 i 132) else X 2 (s2 cs i)
def Q2 : V2 → (Nat → St → Prop) → (St → Prop) → Prop := fun (cs, i) X R => 0 ≤ i ∧ i ≤ cs.length ∧ cs.length ≤ LB ∧ (∀ c ∈ cs, B.F46.Pre c) ∧
  bif (runQ Possible cs (List.range' i.toNat (cs.length - i.toNat))).2 == 0 then X 0 s1 else R (s0 (runQ Possible cs (List.range' i.toNat (cs.length - i.toNat))).1 132)
noncomputable def purs : List (Nat × (List Ty × (List AV → PV))) := [(46, (Go.Proofs.YtmemeaaccgmeaaaGreat.B.F46.ts, Go.Proofs.YtmemeaaccgmeaaaGreat.B.F46.G)), (47, (Go.Proofs.YtmemeaaccgmeaaaGreat.A.F47.ts, Go.Proofs.YtmemeaaccgmeaaaGreat.A.F47.G))]
noncomputable def callF (g : FuncId) : CF := fun _ _ _ => False
noncomputable def L2 : K → Nat → St → Prop := mkL dec2 st2 0 0 [] Q2
noncomputable def L8 : K → Nat → St → Prop := mkL dec8 st8 0 0 [0] Q8
noncomputable def loops : List (Nat × (List Nat × (K → Nat → St → Prop))) := [(2, (keep2, L2)), (8, (keep8, L8))]
noncomputable def C : Ctx := { ti := ti, meth := meth, can := can, pur := purOf purs, loops := fun i => seek loops i, gh := fun _ => [], xk := fun i => seek [(0, ([], 0)), (2, ([0, 4], 0))] i, rk := some ([2, 3], 0) }
noncomputable def Round2 (x0 : (List D74)) (x4 : Int) (N : St → Prop) (X : Nat → St → Prop) (R : St → Prop) : Prop :=
  (bif decide (x4 < (↑x0.length : Int)) then (((0 : Int) ≤ x4) ∧ ((x4 < (↑x0.length : Int)) ∧ ((B.F46.Pre (x0.getD x4.toNat d74)) ∧ (bif !B.F46.val (x0.getD x4.toNat d74) then R (s0 (x4) ((132 : Int))) else (st8 (x0, x4, (0 : Int)) = st8 (x0, x4, (0 : Int)) ∧ (((0 : Int) ≤ (0 : Int)) ∧ (((0 : Int) ≤ x4) ∧ ((x4 < (↑x0.length : Int)) ∧ ((x0.length ≤ LB) ∧ (bif (List.range' (Int.toNat (0 : Int)) (x4.toNat - Int.toNat (0 : Int))).any fun (k : Nat) => HP.clash (x0.getD k c0) (x0.getD x4.toNat c0) then R (s0 (x4) ((132 : Int))) else N (st2 (x0, IntKind.i64.wrap (x4 + (1 : Int)))))))))))))) else X 0 (s1))
theorem round2 (x0 : (List D74)) (x4 : Int) (N : St → Prop) (X : Nat → St → Prop) (R : St → Prop) : exec C callF body2 ⟨0, [0], fun s' => cond (Nat.ble 0 s'.H.length) (N (scrub keep2 0 s')) False, X, R⟩ (st2 (x0, x4)) = Round2 x0 x4 N X R := by kernel_rfl
noncomputable def Round8 (x0 : (List D74)) (x4 : Int) (x6 : Int) (N : St → Prop) (X : Nat → St → Prop) (R : St → Prop) : Prop :=
  (bif decide (x6 < x4) then (((0 : Int) ≤ x6) ∧ ((x6 < (↑x0.length : Int)) ∧ (((0 : Int) ≤ x4) ∧ ((x4 < (↑x0.length : Int)) ∧ (bif F47.val (x0.getD x6.toNat d74) (x0.getD x4.toNat d74) then R (s0 (x4) ((132 : Int))) else N (st8 (x0, x4, IntKind.i64.wrap (x6 + (1 : Int))))))))) else X 2 (s2 (x0) (x4)))
theorem round8 (x0 : (List D74)) (x4 : Int) (x6 : Int) (N : St → Prop) (X : Nat → St → Prop) (R : St → Prop) : exec C callF body8 ⟨0, [0, 0], fun s' => cond (Nat.ble 0 s'.H.length) (N (scrub keep8 0 s')) False, X, R⟩ (st8 (x0, x4, x6)) = Round8 x0 x4 x6 N X R := by kernel_rfl
noncomputable def Main (calls : (List D74)) (k : AV → Prop) : Prop :=
  (st2 (calls, (0 : Int)) = st2 (calls, (0 : Int)) ∧ (((0 : Int) ≤ (0 : Int)) ∧ (((0 : Int) ≤ (↑calls.length : Int)) ∧ ((calls.length ≤ LB) ∧ ((∀ (c : D74), c ∈ calls → B.F46.Pre c) ∧ (bif (runQ Possible calls (List.range' (Int.toNat (0 : Int)) (calls.length - Int.toNat (0 : Int)))).snd == (0 : Int) then k (.tup [⟨(.int .i64), ((0 : Int))⟩, ⟨(.int .i64), ((0 : Int))⟩]) else k (.tup [⟨(.int .i64), ((runQ Possible calls (List.range' (Int.toNat (0 : Int)) (calls.length - Int.toNat (0 : Int)))).fst)⟩, ⟨(.int .i64), ((132 : Int))⟩])))))))
theorem main (calls : (List D74)) (k : AV → Prop) : (runFn C callF Tryz.f13 [.v (.sl (.pair (.int .u8) (.pair (.int .u64) (.pair (.pair (.int .u8) (.pair (.int .u64) (.pair (.int .u64) (.pair (.sl (.int .u8)) (.pair (.sl (.int .u8)) (.pair .bool (.pair (.int .u8) .unit))))))) (.pair (.int .u8) (.pair (.sl (.int .u8)) (.pair (.int .i64) (.pair (.int .i64) .unit)))))))) calls] [] (fun r H => coRes H [(.int .i64), (.int .i64)] r k)) = Main calls k := by kernel_rfl
theorem loop8 (v : V8) (X : Nat → St → Prop) (R : St → Prop) : Q8 v X R → ∃ m, loopN C callF keep8 0 body8 ⟨0, [0], fun _ => False, X, R⟩ m (st8 v) := by
  refine loop_ind (fun v => Q8 v X R) (fun (cs, i, k) => i.toNat - k.toNat) ?_ v
  rintro ⟨cs, i, k⟩ ⟨h0, h1, h2, h3, h4⟩ N hN
  rw [round8]
  obtain ⟨i, rfl⟩ : ∃ a : Nat, i = a := ⟨i.toNat, by omega⟩
  obtain ⟨k, rfl⟩ : ∃ a : Nat, k = a := ⟨k.toNat, by omega⟩
  dsimp only at hN
  rw [Int.toNat_natCast, Int.toNat_natCast] at h4
  have h3' : cs.length ≤ 1073741824 := h3
  unfold Round8
  rw [Int.toNat_natCast, Int.toNat_natCast, w64n (by omega)]
  refine bif_d (fun hj => ?_) (fun hj => ?_)
  · rw [range_cons (show k < i by omega), List.any_cons] at h4
    refine ⟨by omega, by omega, by omega, by omega, bif_i (fun e => ?_) (fun e => ?_)⟩
    · rw [show clash (cs.getD k c0) (cs.getD i c0) = true from e, Bool.true_or, cond_true] at h4; exact h4
    · rw [show clash (cs.getD k c0) (cs.getD i c0) = false from e, Bool.false_or] at h4
      exact hN (cs, (i : Int), ((k + 1 : Nat) : Int)) ⟨by omega, by omega, h2, h3, by rw [Int.toNat_natCast, Int.toNat_natCast]; exact h4⟩ (by dsimp only; rw [Int.toNat_natCast, Int.toNat_natCast]; omega)
  · rw [show i - k = 0 by omega] at h4
    exact h4
theorem loop2 (v : V2) (X : Nat → St → Prop) (R : St → Prop) : Q2 v X R → ∃ m, loopN C callF keep2 0 body2 ⟨0, [], fun _ => False, X, R⟩ m (st2 v) := by
  refine loop_ind (fun v => Q2 v X R) (fun (cs, i) => cs.length - i.toNat) ?_ v
  rintro ⟨cs, i⟩ ⟨h0, h1, h2, hm, h4⟩ N hN
  rw [round2]
  obtain ⟨j, rfl⟩ : ∃ a : Nat, i = a := ⟨i.toNat, by omega⟩
  dsimp only at hN
  rw [Int.toNat_natCast] at h4
  have h2' : cs.length ≤ 1073741824 := h2
  refine bif_d (fun hj => ?_) (fun hj => ?_)
  · have hn : j < cs.length := by omega
    rw [range_cons hn, runQ] at h4
    rw [Int.toNat_natCast, w64n (by omega)]
    refine ⟨by omega, by omega, hm _ (getD_mem hn c0), bif_i (fun e => ?_) (fun e => ⟨rfl, by omega, by omega, by omega, h2, ?_⟩)⟩
    · have : stopD Possible cs j = true := by unfold stopD; rw [show (!Possible (cs.getD j c0)) = true from e]; rfl
      rw [this, cond_true] at h4; exact h4
    · have hs : stopD Possible cs j = (List.range' 0 j).any fun k => clash (cs.getD k c0) (cs.getD j c0) := by unfold stopD; rw [show (!Possible (cs.getD j c0)) = false from e, Bool.false_or]
      rw [hs] at h4
      show bif (List.range' 0 j).any (fun k => clash (cs.getD k c0) (cs.getD j c0)) then _ else _
      refine bif_i (fun y => ?_) (fun y => ?_)
      · rw [y, cond_true] at h4; exact h4
      · rw [y, cond_false] at h4
        exact hN (cs, ((j + 1 : Nat) : Int)) ⟨by omega, by omega, h2, hm, by rw [Int.toNat_natCast]; exact h4⟩ (by dsimp only; omega)
  · rw [show cs.length - j = 0 by omega, show List.range' j 0 = [] from rfl, runQ] at h4
    exact h4
theorem spec (cs : List Cl) (k : AV → Prop) (h : AllP [cs.length ≤ LB, ∀ c ∈ cs, B.F46.Pre c]) (hk : k (.tup [⟨.int .i64, (runQ Possible cs (List.range' 0 cs.length)).1⟩, ⟨.int .i64, (runQ Possible cs (List.range' 0 cs.length)).2⟩])) : Main cs k := by
  refine ⟨rfl, by omega, by omega, h.1, h.2.1, ?_⟩
  show bif (runQ Possible cs (List.range' 0 cs.length)).2 == 0 then _ else _
  rcases runD_two Possible cs (List.range' 0 cs.length) with e | e
  · rw [e] at hk ⊢
    exact hk
  · rw [e] at hk
    rw [e]
    exact hk
noncomputable def ts : List Ty := [(.sl T74)]
noncomputable def G : List AV → PV := pg1 (.sl T74) (fun calls => [calls.length ≤ LB, ∀ c ∈ calls, B.F46.Pre c]) (fun calls => .tup [⟨.int .i64, (runQ Possible calls (List.range' 0 calls.length)).1⟩, ⟨.int .i64, (runQ Possible calls (List.range' 0 calls.length)).2⟩])
theorem loopsOK : LoopsOK C callF (bodyOf Tryz.f13) := loopsOK_seek (tbl := loops) (fun _ => rfl) (by kernel_rfl) (List.forall_mem_cons.2 ⟨mkL_ok loop2, List.forall_mem_cons.2 ⟨mkL_ok loop8, fun _ h => nomatch h⟩⟩)
theorem pursOK : ∀ g ts F, C.pur g = some (ts, F) → SoundP Tryz.prog g F := purOf_ok (l := purs) (List.forall_mem_cons.2 ⟨Go.Proofs.YtmemeaaccgmeaaaGreat.B.F46.ok, List.forall_mem_cons.2 ⟨Go.Proofs.YtmemeaaccgmeaaaGreat.A.F47.ok, fun _ h => nomatch h⟩⟩)
theorem cfsOK : ∀ g, SoundF Tryz.prog g (callF g) := fun g => soundF_none g
theorem ok : SoundP Tryz.prog 13 G := by
  unfold G
  refine soundP_pg1 (soundF_run (C := C) (callF := callF) (tabOK C rfl rfl rfl) cfsOK pursOK Tryz.func13 (by kernel_rfl) loopsOK) [(.int .i64), (.int .i64)] fun calls h => ?_
  rw [main]
  exact spec calls _ h rfl
end F13

end Go.Proofs.YtmemeaaccgmeaaaGreat.C
