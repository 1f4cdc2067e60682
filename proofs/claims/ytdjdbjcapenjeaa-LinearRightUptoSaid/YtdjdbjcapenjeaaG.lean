/- the document's Obeys -/
import Derived.Test.YtdjdbjcapenjeaaDxTab
import Derived.Test.YtdjdbjcapenjeaaDx3
import Derived.Test.YtdjdbjcapenjeaaDxTy
import Derived.Test.YtdjdbjcapenjeaaD
import Derived.Test.YtdjdbjcapenjeaaB
import Derived.Test.YtdjdbjcapenjeaaC
import Derived.Test.YtdjdbjcapenjeaaA
set_option linter.unusedVariables false
set_option maxRecDepth 100000
open Go Go.Proofs Go.Proofs.Ytdjdbjcapenjeaa.Dx Go.Proofs.Ytdjdbjcapenjeaa.Dx.TYtdjdbjcapenjeaa
namespace Go.Proofs.Ytdjdbjcapenjeaa.G
open D
/-- The call at that place of the order. -/
def cat (cs : List D30) (o : List Int) (j : Nat) : D30 := cs.getD (o.getD j 0).toNat d30
/-- The order breaks nothing that was before. -/
def ordOK (cs : List D30) (o : List Int) (i : Nat) : Bool := (List.range' 0 i).all fun j => !A.F42.val (cat cs o i) (cat cs o j)
/-- What the key has behind these places. -/
def lk (cs : List D30) (o : List Int) (cells : List D60) (key : Int) : List Nat → D60 → D60
  | [], x => x
  | j :: r, x => lk cs o cells key r (bif (cat cs o j).2.2.1.2.1 == key then cells.getD j d60 else x)
def rr (cs : List D30) (o : List Int) : List Nat → List D60 → Bool
  | [], _ => true
  | i :: r, cells => bif !(B.F26.val (cat cs o i) (lk cs o cells (cat cs o i).2.2.1.2.1 (List.range' 0 i) d60)).1 then false else
    rr cs o r (cells.set i (B.F26.val (cat cs o i) (lk cs o cells (cat cs o i).2.2.1.2.1 (List.range' 0 i) d60)).2)
/-- Its value is not too long. -/
def LX (x : D60) : Prop := x.2.1.length ≤ LB
theorem F26_pre (c : D30) (x : D60) (h : LX x) : B.F26.Pre c x := by
  have h' : List.length x.snd.fst ≤ LB := h
  unfold B.F26.Pre B.F46.Pre
  refine ⟨?_, ?_⟩ <;> repeat (first | exact trivial | exact h' | refine bif_all ?_ ?_)
theorem F26_LX (c : D30) (x : D60) (hc : C.F9.LC c) (hx : LX x) : LX (B.F26.val c x).2 := by
  have hb : ∀ {α : Type} (p : α → Prop) (b : Bool) (u v : α), p u → p v → p (bif b then u else v) := fun p b u v h1 h2 => by cases b <;> assumption
  have h0 : LX d60 := Nat.zero_le _
  have h1 : LX (true, c.2.2.1.2.2.2.1, ()) := hc.2.1
  have h46 : LX (B.F46.val c.snd.snd.fst x).2 := by
    unfold B.F46.val
    repeat (first | exact h0 | exact h1 | exact hx | refine hb (fun y : Int × D60 => LX y.2) _ _ _ ?_ ?_)
  unfold B.F26.val
  repeat (first | exact h0 | exact h46 | exact hx | refine hb (fun y : Bool × D60 => LX y.2) _ _ _ ?_ ?_)
theorem lk_LX (cs : List D30) (o : List Int) (cells : List D60) (key : Int) (hc : ∀ y ∈ cells, LX y) : ∀ (r : List Nat) (x : D60), LX x → LX (lk cs o cells key r x)
  | [], x, h => h
  | j :: r, x, h => by
    refine lk_LX cs o cells key hc r _ ?_
    cases (cat cs o j).2.2.1.2.1 == key with
    | false => exact h
    | true =>
      rw [cond_true, List.getD_eq_getElem?_getD]
      cases e : cells[j]? with
      | none => exact Nat.zero_le _
      | some y => exact hc y (List.mem_of_getElem? e)
theorem range_cons {j n : Nat} (h : j < n) : List.range' j (n - j) = j :: List.range' (j + 1) (n - (j + 1)) := by
  rw [show n - j = (n - (j + 1)) + 1 by omega, List.range'_succ]
def InR (cs : List D30) (o : List Int) : Prop := ∀ y ∈ o, 0 ≤ y ∧ y < cs.length
namespace F19
abbrev V4 := (List D30) × (List Int) × Int
noncomputable def st4 (v : V4) : St := ⟨[.v (.sl T30) (v.1), .v (.sl (.int .i64)) (v.2.1), .dead, .dead, .dead, .v (.int .i64) (v.2.2), .dead, .dead, .dead, .dead, .dead, .dead, .dead, .dead, .dead, .dead, .dead, .dead, .dead, .dead, .dead, .dead, .dead, .dead, .dead, .dead, .dead, .dead, .dead, .dead, .dead, .dead, .dead, .dead, .dead, .dead, .dead, .dead, .dead, .dead, .dead, .dead, .dead, .dead, .dead, .dead, .dead, .dead, .dead, .dead, .dead, .dead, .dead, .dead, .dead, .dead, .dead, .dead, .dead, .dead, .dead, .dead, .dead, .dead, .dead, .dead, .dead, .dead, .dead, .dead, .dead, .dead, .dead, .dead, .dead, .dead, .dead, .dead, .dead, .dead, .dead, .dead, .dead, .dead, .dead, .dead, .dead, .dead, .dead, .dead, .dead, .dead, .dead, .dead, .dead, .dead, .dead, .dead, .dead, .dead, .dead, .dead, .dead, .dead, .dead, .dead], []⟩
noncomputable def dec4 (s : St) : Option V4 := match gV (.sl T30) (s.T.getD 0 .dead), gV (.sl (.int .i64)) (s.T.getD 1 .dead), gV (.int .i64) (s.T.getD 5 .dead) with | some a0, some a1, some a5 => some (a0, a1, a5) | _, _, _ => none
noncomputable def keep4 : List Nat := [0, 1, 5]
noncomputable def body4 : Code := bodyAt (loopsOf (bodyOf Try.f19)) 4
abbrev V7 := (List D30) × (List Int) × Int × Int
noncomputable def st7 (v : V7) : St := ⟨[.v (.sl T30) (v.1), .v (.sl (.int .i64)) (v.2.1), .dead, .dead, .dead, .v (.int .i64) (v.2.2.1), .v (.int .i64) (v.2.2.2), .dead, .dead, .dead, .dead, .dead, .dead, .dead, .dead, .dead, .dead, .dead, .dead, .dead, .dead, .dead, .dead, .dead, .dead, .dead, .dead, .dead, .dead, .dead, .dead, .dead, .dead, .dead, .dead, .dead, .dead, .dead, .dead, .dead, .dead, .dead, .dead, .dead, .dead, .dead, .dead, .dead, .dead, .dead, .dead, .dead, .dead, .dead, .dead, .dead, .dead, .dead, .dead, .dead, .dead, .dead, .dead, .dead, .dead, .dead, .dead, .dead, .dead, .dead, .dead, .dead, .dead, .dead, .dead, .dead, .dead, .dead, .dead, .dead, .dead, .dead, .dead, .dead, .dead, .dead, .dead, .dead, .dead, .dead, .dead, .dead, .dead, .dead, .dead, .dead, .dead, .dead, .dead, .dead, .dead, .dead, .dead, .dead, .dead, .dead], []⟩
noncomputable def dec7 (s : St) : Option V7 := match gV (.sl T30) (s.T.getD 0 .dead), gV (.sl (.int .i64)) (s.T.getD 1 .dead), gV (.int .i64) (s.T.getD 5 .dead), gV (.int .i64) (s.T.getD 6 .dead) with | some a0, some a1, some a5, some a6 => some (a0, a1, a5, a6) | _, _, _, _ => none
noncomputable def keep7 : List Nat := [0, 1, 5, 6]
noncomputable def body7 : Code := bodyAt (loopsOf (bodyOf Try.f19)) 7
abbrev V13 := (List D30) × (List Int) × Nat × Int × (List D60)
noncomputable def st13 (v : V13) : St := ⟨[.v (.sl T30) (v.1), .v (.sl (.int .i64)) (v.2.1), .dead, .dead, .dead, .dead, .dead, .v .ref (.sl 0 0 (v.2.2.1)), .v (.int .i64) (v.2.2.2.1), .dead, .dead, .dead, .dead, .dead, .dead, .dead, .dead, .dead, .dead, .dead, .dead, .dead, .dead, .dead, .dead, .dead, .dead, .dead, .dead, .dead, .dead, .dead, .dead, .dead, .dead, .dead, .dead, .dead, .dead, .dead, .dead, .dead, .dead, .dead, .dead, .dead, .dead, .dead, .dead, .dead, .dead, .dead, .dead, .dead, .dead, .dead, .dead, .dead, .dead, .dead, .dead, .dead, .dead, .dead, .dead, .dead, .dead, .dead, .dead, .dead, .dead, .dead, .dead, .dead, .dead, .dead, .dead, .dead, .dead, .dead, .dead, .dead, .dead, .dead, .dead, .dead, .dead, .dead, .dead, .dead, .dead, .dead, .dead, .dead, .dead, .dead, .dead, .dead, .dead, .dead, .dead, .dead, .dead, .dead, .dead, .dead], [.row T60 (v.2.2.2.2) 60]⟩
noncomputable def dec13 (s : St) : Option V13 := match gV (.sl T30) (s.T.getD 0 .dead), gV (.sl (.int .i64)) (s.T.getD 1 .dead), gV .ref (s.T.getD 7 .dead), gV (.int .i64) (s.T.getD 8 .dead), gRow T60 s.H[0]? with | some a0, some a1, some a7, some a8, some b0 => some (a0, a1, rN (a7), a8, b0) | _, _, _, _, _ => none
noncomputable def keep13 : List Nat := [0, 1, 7, 8]
noncomputable def body13 : Code := bodyAt (loopsOf (bodyOf Try.f19)) 13
abbrev V18 := (List D30) × (List Int) × Nat × Int × Int × (List D60) × D30 × D60
noncomputable def st18 (v : V18) : St := ⟨[.v (.sl T30) (v.1), .v (.sl (.int .i64)) (v.2.1), .dead, .dead, .dead, .dead, .dead, .v .ref (.sl 0 0 (v.2.2.1)), .v (.int .i64) (v.2.2.2.1), .v .ref (.ptr 1 []), .v .ref (.ptr 2 []), .v (.int .i64) (v.2.2.2.2.1), .dead, .dead, .dead, .dead, .dead, .dead, .dead, .dead, .dead, .dead, .dead, .dead, .dead, .dead, .dead, .dead, .dead, .dead, .dead, .dead, .dead, .dead, .dead, .dead, .dead, .dead, .dead, .dead, .dead, .dead, .dead, .dead, .dead, .dead, .dead, .dead, .dead, .dead, .dead, .dead, .dead, .dead, .dead, .dead, .dead, .dead, .dead, .dead, .dead, .dead, .dead, .dead, .dead, .dead, .dead, .dead, .dead, .dead, .dead, .dead, .dead, .dead, .dead, .dead, .dead, .dead, .dead, .dead, .dead, .dead, .dead, .dead, .dead, .dead, .dead, .dead, .dead, .dead, .dead, .dead, .dead, .dead, .dead, .dead, .dead, .dead, .dead, .dead, .dead, .dead, .dead, .dead, .dead, .dead], [.row T60 (v.2.2.2.2.2.1) 60, .var T30 (v.2.2.2.2.2.2.1) 30, .var T60 (v.2.2.2.2.2.2.2) 60]⟩
noncomputable def dec18 (s : St) : Option V18 := match gV (.sl T30) (s.T.getD 0 .dead), gV (.sl (.int .i64)) (s.T.getD 1 .dead), gV .ref (s.T.getD 7 .dead), gV (.int .i64) (s.T.getD 8 .dead), gV (.int .i64) (s.T.getD 11 .dead), gRow T60 s.H[0]?, gVar T30 s.H[1]?, gVar T60 s.H[2]? with | some a0, some a1, some a7, some a8, some a11, some b0, some b1, some b2 => some (a0, a1, rN (a7), a8, a11, b0, b1, b2) | _, _, _, _, _, _, _, _ => none
noncomputable def keep18 : List Nat := [0, 1, 7, 8, 9, 10, 11]
noncomputable def body18 : Code := bodyAt (loopsOf (bodyOf Try.f19)) 18
noncomputable def s0 (x0 : (List D30)) (x1 : (List Int)) : St := ⟨[.v (.sl T30) x0, .v (.sl (.int .i64)) x1, .dead, .dead, .dead, .dead, .dead, .dead, .dead, .dead, .dead, .dead, .dead, .dead, .dead, .dead, .dead, .dead, .dead, .dead, .dead, .dead, .dead, .dead, .dead, .dead, .dead, .dead, .dead, .dead, .dead, .dead, .dead, .dead, .dead, .dead, .dead, .dead, .dead, .dead, .dead, .dead, .dead, .dead, .dead, .dead, .dead, .dead, .dead, .dead, .dead, .dead, .dead, .dead, .dead, .dead, .dead, .dead, .dead, .dead, .dead, .dead, .dead, .dead, .dead, .dead, .dead, .dead, .dead, .dead, .dead, .dead, .dead, .dead, .dead, .dead, .dead, .dead, .dead, .dead, .dead, .dead, .dead, .dead, .dead, .dead, .dead, .dead, .dead, .dead, .dead, .dead, .dead, .dead, .dead, .dead, .dead, .dead, .dead, .dead, .dead, .dead, .dead, .dead, .dead, .dead], []⟩
noncomputable def s1 (x4 : Bool) : St := ⟨[.dead, .dead, .dead, .dead, .v .bool x4, .dead, .dead, .dead, .dead, .dead, .dead, .dead, .dead, .dead, .dead, .dead, .dead, .dead, .dead, .dead, .dead, .dead, .dead, .dead, .dead, .dead, .dead, .dead, .dead, .dead, .dead, .dead, .dead, .dead, .dead, .dead, .dead, .dead, .dead, .dead, .dead, .dead, .dead, .dead, .dead, .dead, .dead, .dead, .dead, .dead, .dead, .dead, .dead, .dead, .dead, .dead, .dead, .dead, .dead, .dead, .dead, .dead, .dead, .dead, .dead, .dead, .dead, .dead, .dead, .dead, .dead, .dead, .dead, .dead, .dead, .dead, .dead, .dead, .dead, .dead, .dead, .dead, .dead, .dead, .dead, .dead, .dead, .dead, .dead, .dead, .dead, .dead, .dead, .dead, .dead, .dead, .dead, .dead, .dead, .dead, .dead, .dead, .dead, .dead, .dead, .dead], []⟩
noncomputable def s2 (x0 : (List D30)) (x1 : (List Int)) (x5 : Int) : St := ⟨[.v (.sl T30) x0, .v (.sl (.int .i64)) x1, .dead, .dead, .dead, .v (.int .i64) x5, .dead, .dead, .dead, .dead, .dead, .dead, .dead, .dead, .dead, .dead, .dead, .dead, .dead, .dead, .dead, .dead, .dead, .dead, .dead, .dead, .dead, .dead, .dead, .dead, .dead, .dead, .dead, .dead, .dead, .dead, .dead, .dead, .dead, .dead, .dead, .dead, .dead, .dead, .dead, .dead, .dead, .dead, .dead, .dead, .dead, .dead, .dead, .dead, .dead, .dead, .dead, .dead, .dead, .dead, .dead, .dead, .dead, .dead, .dead, .dead, .dead, .dead, .dead, .dead, .dead, .dead, .dead, .dead, .dead, .dead, .dead, .dead, .dead, .dead, .dead, .dead, .dead, .dead, .dead, .dead, .dead, .dead, .dead, .dead, .dead, .dead, .dead, .dead, .dead, .dead, .dead, .dead, .dead, .dead, .dead, .dead, .dead, .dead, .dead, .dead], []⟩
noncomputable def s3 (h0 : (List D60)) : St := ⟨[.dead, .dead, .dead, .dead, .dead, .dead, .dead, .dead, .dead, .dead, .dead, .dead, .dead, .dead, .dead, .dead, .dead, .dead, .dead, .dead, .dead, .dead, .dead, .dead, .dead, .dead, .dead, .dead, .dead, .dead, .dead, .dead, .dead, .dead, .dead, .dead, .dead, .dead, .dead, .dead, .dead, .dead, .dead, .dead, .dead, .dead, .dead, .dead, .dead, .dead, .dead, .dead, .dead, .dead, .dead, .dead, .dead, .dead, .dead, .dead, .dead, .dead, .dead, .dead, .dead, .dead, .dead, .dead, .dead, .dead, .dead, .dead, .dead, .dead, .dead, .dead, .dead, .dead, .dead, .dead, .dead, .dead, .dead, .dead, .dead, .dead, .dead, .dead, .dead, .dead, .dead, .dead, .dead, .dead, .dead, .dead, .dead, .dead, .dead, .dead, .dead, .dead, .dead, .dead, .dead, .dead], [.row T60 h0 60]⟩
noncomputable def s4 (x0 : (List D30)) (x1 : (List Int)) (n7 : Nat) (x8 : Int) (h0 : (List D60)) (h1 : D30) (h2 : D60) : St := ⟨[.v (.sl T30) x0, .v (.sl (.int .i64)) x1, .dead, .dead, .dead, .dead, .dead, .v .ref (.sl 0 0 n7), .v (.int .i64) x8, .v .ref (.ptr 1 []), .v .ref (.ptr 2 []), .dead, .dead, .dead, .dead, .dead, .dead, .dead, .dead, .dead, .dead, .dead, .dead, .dead, .dead, .dead, .dead, .dead, .dead, .dead, .dead, .dead, .dead, .dead, .dead, .dead, .dead, .dead, .dead, .dead, .dead, .dead, .dead, .dead, .dead, .dead, .dead, .dead, .dead, .dead, .dead, .dead, .dead, .dead, .dead, .dead, .dead, .dead, .dead, .dead, .dead, .dead, .dead, .dead, .dead, .dead, .dead, .dead, .dead, .dead, .dead, .dead, .dead, .dead, .dead, .dead, .dead, .dead, .dead, .dead, .dead, .dead, .dead, .dead, .dead, .dead, .dead, .dead, .dead, .dead, .dead, .dead, .dead, .dead, .dead, .dead, .dead, .dead, .dead, .dead, .dead, .dead, .dead, .dead, .dead, .dead], [.row T60 h0 60, .var T30 h1 30, .var T60 h2 60]⟩
def Q7 : V7 → (Nat → St → Prop) → (St → Prop) → Prop := fun (cs, o, i, j) X R => 0 ≤ j ∧ j ≤ i ∧ i < o.length ∧ o.length ≤ LB ∧ InR cs o ∧
  bif (List.range' j.toNat (i.toNat - j.toNat)).all (fun j => !A.F42.val (cat cs o i.toNat) (cat cs o j)) then X 2 (s2 cs o i) else R (s1 false)
def Q4 : V4 → (Nat → St → Prop) → (St → Prop) → Prop := fun (cs, o, i) X R => 0 ≤ i ∧ i ≤ o.length ∧ o.length ≤ LB ∧ InR cs o ∧
  bif (List.range' i.toNat (o.length - i.toNat)).all (ordOK cs o) then X 0 (s0 cs o) else R (s1 false)
def Q18 : V18 → (Nat → St → Prop) → (St → Prop) → Prop := fun (cs, o, n, i, j, cells, c, x) X R => 0 ≤ j ∧ j ≤ i ∧ i < o.length ∧ o.length ≤ LB ∧ InR cs o ∧ n = o.length ∧ cells.length = o.length ∧
  X 6 (s4 cs o n i cells c (lk cs o cells c.2.2.1.2.1 (List.range' j.toNat (i.toNat - j.toNat)) x))
def Q13 : V13 → (Nat → St → Prop) → (St → Prop) → Prop := fun (cs, o, n, i, cells) X R => 0 ≤ i ∧ i ≤ o.length ∧ o.length ≤ LB ∧ InR cs o ∧ n = o.length ∧ cells.length = o.length ∧ (∀ y ∈ cells, LX y) ∧ (∀ c ∈ cs, C.F9.LC c) ∧
  bif rr cs o (List.range' i.toNat (o.length - i.toNat)) cells then (∀ h : List D60, X 4 (s3 h)) else R (s1 false)
noncomputable def purs : List (Nat × (List Ty × (List AV → PV))) := [(26, (Go.Proofs.Ytdjdbjcapenjeaa.B.F26.ts, Go.Proofs.Ytdjdbjcapenjeaa.B.F26.G)), (34, (Go.Proofs.Ytdjdbjcapenjeaa.C.F34.ts, Go.Proofs.Ytdjdbjcapenjeaa.C.F34.G)), (35, (Go.Proofs.Ytdjdbjcapenjeaa.D.F35.ts, Go.Proofs.Ytdjdbjcapenjeaa.D.F35.G)), (36, (Go.Proofs.Ytdjdbjcapenjeaa.D.F36.ts, Go.Proofs.Ytdjdbjcapenjeaa.D.F36.G)), (42, (Go.Proofs.Ytdjdbjcapenjeaa.A.F42.ts, Go.Proofs.Ytdjdbjcapenjeaa.A.F42.G))]
noncomputable def callF (g : FuncId) : CF := fun _ _ _ => False
noncomputable def L4 : K → Nat → St → Prop := mkL dec4 st4 0 0 [] Q4
noncomputable def L7 : K → Nat → St → Prop := mkL dec7 st7 0 0 [0] Q7
noncomputable def L13 : K → Nat → St → Prop := mkL dec13 st13 0 1 [] Q13
noncomputable def L18 : K → Nat → St → Prop := mkL dec18 st18 0 3 [1] Q18
noncomputable def loops : List (Nat × (List Nat × (K → Nat → St → Prop))) := [(4, (keep4, L4)), (7, (keep7, L7)), (13, (keep13, L13)), (18, (keep18, L18))]
noncomputable def C : Ctx := { ti := ti, meth := meth, can := can, pur := purOf purs, loops := fun i => seek loops i, gh := fun _ => [], xk := fun i => seek [(0, ([0, 1], 0)), (2, ([0, 1, 5], 0)), (4, ([], 0)), (6, ([0, 1, 7, 8, 9, 10], 0))] i, rk := some ([4], 0) }
noncomputable def Round4 (x0 : (List D30)) (x1 : (List Int)) (x5 : Int) (N : St → Prop) (X : Nat → St → Prop) (R : St → Prop) : Prop :=
  (bif decide (x5 < (↑x1.length : Int)) then (st7 (x0, x1, x5, (0 : Int)) = st7 (x0, x1, x5, (0 : Int)) ∧ (((0 : Int) ≤ (0 : Int)) ∧ (((0 : Int) ≤ x5) ∧ ((x5 < (↑x1.length : Int)) ∧ ((x1.length ≤ LB) ∧ ((InR x0 x1) ∧ (bif (List.range' (Int.toNat (0 : Int)) (x5.toNat - Int.toNat (0 : Int))).all fun (j : Nat) => !A.F42.val (cat x0 x1 x5.toNat) (cat x0 x1 j) then N (st4 (x0, x1, IntKind.i64.wrap (x5 + (1 : Int)))) else R (s1 (false))))))))) else X 0 (s0 (x0) (x1)))
theorem round4 (x0 : (List D30)) (x1 : (List Int)) (x5 : Int) (N : St → Prop) (X : Nat → St → Prop) (R : St → Prop) : exec C callF body4 ⟨0, [0], fun s' => cond (Nat.ble 0 s'.H.length) (N (scrub keep4 0 s')) False, X, R⟩ (st4 (x0, x1, x5)) = Round4 x0 x1 x5 N X R := by kernel_rfl
noncomputable def Round7 (x0 : (List D30)) (x1 : (List Int)) (x5 : Int) (x6 : Int) (N : St → Prop) (X : Nat → St → Prop) (R : St → Prop) : Prop :=
  (bif decide (x6 < x5) then (((0 : Int) ≤ x5) ∧ ((x5 < (↑x1.length : Int)) ∧ (((0 : Int) ≤ x1.getD x5.toNat (0 : Int)) ∧ ((x1.getD x5.toNat (0 : Int) < (↑x0.length : Int)) ∧ (((0 : Int) ≤ x6) ∧ ((x6 < (↑x1.length : Int)) ∧ (((0 : Int) ≤ x1.getD x6.toNat (0 : Int)) ∧ ((x1.getD x6.toNat (0 : Int) < (↑x0.length : Int)) ∧ (bif A.F42.val (x0.getD (Int.toNat (x1.getD x5.toNat (0 : Int))) d30) (x0.getD (Int.toNat (x1.getD x6.toNat (0 : Int))) d30) then R (s1 (false)) else N (st7 (x0, x1, x5, IntKind.i64.wrap (x6 + (1 : Int))))))))))))) else X 2 (s2 (x0) (x1) (x5)))
theorem round7 (x0 : (List D30)) (x1 : (List Int)) (x5 : Int) (x6 : Int) (N : St → Prop) (X : Nat → St → Prop) (R : St → Prop) : exec C callF body7 ⟨0, [0, 0], fun s' => cond (Nat.ble 0 s'.H.length) (N (scrub keep7 0 s')) False, X, R⟩ (st7 (x0, x1, x5, x6)) = Round7 x0 x1 x5 x6 N X R := by kernel_rfl
noncomputable def Round13 (x0 : (List D30)) (x1 : (List Int)) (n7 : Nat) (x8 : Int) (h0 : (List D60)) (N : St → Prop) (X : Nat → St → Prop) (R : St → Prop) : Prop :=
  (bif decide (x8 < (↑x1.length : Int)) then (((0 : Int) ≤ x8) ∧ ((x8 < (↑x1.length : Int)) ∧ (((0 : Int) ≤ x1.getD x8.toNat (0 : Int)) ∧ ((x1.getD x8.toNat (0 : Int) < (↑x0.length : Int)) ∧ (st18 (x0, x1, n7, x8, (0 : Int), h0, x0.getD (Int.toNat (x1.getD x8.toNat (0 : Int))) d30, false, [], ()) = st18 (x0, x1, n7, x8, (0 : Int), h0, x0.getD (Int.toNat (x1.getD x8.toNat (0 : Int))) d30, false, [], ()) ∧ (((0 : Int) ≤ (0 : Int)) ∧ (((0 : Int) ≤ x8) ∧ ((x8 < (↑x1.length : Int)) ∧ ((x1.length ≤ LB) ∧ ((InR x0 x1) ∧ ((n7 = x1.length) ∧ ((h0.length = x1.length) ∧ ((B.F26.Pre (x0.getD (Int.toNat (x1.getD x8.toNat (0 : Int))) d30) (lk x0 x1 h0 (x0.getD (Int.toNat (x1.getD x8.toNat (0 : Int))) d30).snd.snd.fst.snd.fst (List.range' (Int.toNat (0 : Int)) (x8.toNat - Int.toNat (0 : Int))) d60)) ∧ (bif !(B.F26.val (x0.getD (Int.toNat (x1.getD x8.toNat (0 : Int))) d30) (lk x0 x1 h0 (x0.getD (Int.toNat (x1.getD x8.toNat (0 : Int))) d30).snd.snd.fst.snd.fst (List.range' (Int.toNat (0 : Int)) (x8.toNat - Int.toNat (0 : Int))) d60)).fst then R (s1 (false)) else (((0 : Int) ≤ x8) ∧ ((x8 < (↑n7 : Int)) ∧ ((x8.toNat < h0.length) ∧ N (st13 (x0, x1, n7, IntKind.i64.wrap (x8 + (1 : Int)), h0.set x8.toNat (B.F26.val (x0.getD (Int.toNat (x1.getD x8.toNat (0 : Int))) d30) (lk x0 x1 h0 (x0.getD (Int.toNat (x1.getD x8.toNat (0 : Int))) d30).snd.snd.fst.snd.fst (List.range' (Int.toNat (0 : Int)) (x8.toNat - Int.toNat (0 : Int))) d60)).snd))))))))))))))))))) else X 4 (s3 (h0)))
theorem round13 (x0 : (List D30)) (x1 : (List Int)) (n7 : Nat) (x8 : Int) (h0 : (List D60)) (N : St → Prop) (X : Nat → St → Prop) (R : St → Prop) : exec C callF body13 ⟨0, [1], fun s' => cond (Nat.ble 1 s'.H.length) (N (scrub keep13 1 s')) False, X, R⟩ (st13 (x0, x1, n7, x8, h0)) = Round13 x0 x1 n7 x8 h0 N X R := by kernel_rfl
noncomputable def Round18 (x0 : (List D30)) (x1 : (List Int)) (n7 : Nat) (x8 : Int) (x11 : Int) (h0 : (List D60)) (h1 : D30) (h2 : D60) (N : St → Prop) (X : Nat → St → Prop) (R : St → Prop) : Prop :=
  (bif decide (x11 < x8) then (((0 : Int) ≤ x11) ∧ ((x11 < (↑x1.length : Int)) ∧ (((0 : Int) ≤ x1.getD x11.toNat (0 : Int)) ∧ ((x1.getD x11.toNat (0 : Int) < (↑x0.length : Int)) ∧ (bif (x0.getD (Int.toNat (x1.getD x11.toNat (0 : Int))) d30).snd.snd.fst.snd.fst == h1.snd.snd.fst.snd.fst then (((0 : Int) ≤ x11) ∧ ((x11 < (↑n7 : Int)) ∧ ((x11.toNat < h0.length) ∧ N (st18 (x0, x1, n7, x8, IntKind.i64.wrap (x11 + (1 : Int)), h0, h1, h0.getD x11.toNat d60))))) else N (st18 (x0, x1, n7, x8, IntKind.i64.wrap (x11 + (1 : Int)), h0, h1, h2))))))) else X 6 (s4 (x0) (x1) (n7) (x8) (h0) (h1) (h2)))
theorem round18 (x0 : (List D30)) (x1 : (List Int)) (n7 : Nat) (x8 : Int) (x11 : Int) (h0 : (List D60)) (h1 : D30) (h2 : D60) (N : St → Prop) (X : Nat → St → Prop) (R : St → Prop) : exec C callF body18 ⟨0, [3, 1], fun s' => cond (Nat.ble 3 s'.H.length) (N (scrub keep18 3 s')) False, X, R⟩ (st18 (x0, x1, n7, x8, x11, h0, h1, h2)) = Round18 x0 x1 n7 x8 x11 h0 h1 h2 N X R := by kernel_rfl
noncomputable def Main (calls : (List D30)) (order : (List Int)) (k : AV → Prop) : Prop :=
  ((calls.length ≤ LB) ∧ (bif !calls.all B.F25.val then k (.v .bool (false)) else ((order.length ≤ LB) ∧ (bif !lst calls [] order then k (.v .bool (false)) else ((calls.length ≤ LB) ∧ ((order.length ≤ LB) ∧ (bif !(List.range' (0 : Nat) calls.length).all (F36.inOr calls order) then k (.v .bool (false)) else (st4 (calls, order, (0 : Int)) = st4 (calls, order, (0 : Int)) ∧ (((0 : Int) ≤ (0 : Int)) ∧ (((0 : Int) ≤ (↑order.length : Int)) ∧ ((order.length ≤ LB) ∧ ((InR calls order) ∧ (bif (List.range' (Int.toNat (0 : Int)) (order.length - Int.toNat (0 : Int))).all (ordOK calls order) then (((↑order.length : Int) = (↑order.length : Int)) ∧ (((0 : Int) ≤ (↑order.length : Int)) ∧ (((↑order.length : Int) ≤ (↑(2199023255552 : Nat) : Int)) ∧ (st13 (calls, order, (↑order.length : Int).toNat, (0 : Int), List.replicate (↑order.length : Int).toNat d60) = st13 (calls, order, (↑order.length : Int).toNat, (0 : Int), List.replicate (↑order.length : Int).toNat d60) ∧ (((0 : Int) ≤ (0 : Int)) ∧ (((0 : Int) ≤ (↑order.length : Int)) ∧ ((order.length ≤ LB) ∧ ((InR calls order) ∧ (((↑order.length : Int).toNat = order.length) ∧ (((List.replicate (↑order.length : Int).toNat d60).length = order.length) ∧ ((∀ (y : D60), y ∈ List.replicate (↑order.length : Int).toNat d60 → LX y) ∧ ((∀ (c : D30), c ∈ calls → C.F9.LC c) ∧ (bif rr calls order (List.range' (Int.toNat (0 : Int)) (order.length - Int.toNat (0 : Int))) (List.replicate (↑order.length : Int).toNat d60) then (∀ q3 : List D60, k (.v .bool (true))) else k (.v .bool (false))))))))))))))) else k (.v .bool (false)))))))))))))))
theorem main (calls : (List D30)) (order : (List Int)) (k : AV → Prop) : (runFn C callF Try.f19 [.v (.sl (.pair (.int .u8) (.pair (.int .u64) (.pair (.pair (.int .u8) (.pair (.int .u64) (.pair (.int .u64) (.pair (.sl (.int .u8)) (.pair (.sl (.int .u8)) (.pair .bool (.pair (.int .u8) .unit))))))) (.pair (.int .u8) (.pair (.sl (.int .u8)) (.pair (.int .i64) (.pair (.int .i64) .unit)))))))) calls, .v (.sl (.int .i64)) order] [] (fun r H => coRes H [.bool] r k)) = Main calls order k := by kernel_rfl
theorem loop7 (v : V7) (X : Nat → St → Prop) (R : St → Prop) : Q7 v X R → ∃ m, loopN C callF keep7 0 body7 ⟨0, [0], fun _ => False, X, R⟩ m (st7 v) := by
  refine loop_ind (fun v => Q7 v X R) (fun v => v.2.2.1.toNat - v.2.2.2.toNat) ?_ v
  rintro ⟨cs, o, i, j⟩ ⟨h0, h1, h2, h3, hm, h4⟩ N hN
  rw [round7]
  obtain ⟨i, rfl⟩ : ∃ a : Nat, i = a := ⟨i.toNat, by omega⟩
  obtain ⟨j, rfl⟩ : ∃ a : Nat, j = a := ⟨j.toNat, by omega⟩
  dsimp only at hN
  rw [Int.toNat_natCast, Int.toNat_natCast] at h4
  have h3' : o.length ≤ 1073741824 := h3
  refine bif_d (fun hj => ?_) (fun hj => ?_)
  · rw [range_cons (by omega), List.all_cons] at h4
    rw [Int.toNat_natCast, Int.toNat_natCast, w64n (by omega)]
    obtain ⟨a1, a2⟩ := hm _ (C.F9.getD_mem (show i < o.length by omega) 0)
    obtain ⟨b1, b2⟩ := hm _ (C.F9.getD_mem (show j < o.length by omega) 0)
    refine ⟨by omega, by omega, a1, a2, by omega, by omega, b1, b2, bif_i (fun e => ?_) (fun e => ?_)⟩
    · rw [show A.F42.val (cat cs o i) (cat cs o j) = true from e, Bool.not_true, Bool.false_and, cond_false] at h4
      exact h4
    · rw [show A.F42.val (cat cs o i) (cat cs o j) = false from e, Bool.not_false, Bool.true_and] at h4
      exact hN _ ⟨by omega, by omega, h2, h3, hm, by rw [Int.toNat_natCast, Int.toNat_natCast]; exact h4⟩ (by dsimp only; omega)
  · rw [show i - j = 0 by omega] at h4
    exact h4
theorem loop4 (v : V4) (X : Nat → St → Prop) (R : St → Prop) : Q4 v X R → ∃ m, loopN C callF keep4 0 body4 ⟨0, [], fun _ => False, X, R⟩ m (st4 v) := by
  refine loop_ind (fun v => Q4 v X R) (fun v => v.2.1.length - v.2.2.toNat) ?_ v
  rintro ⟨cs, o, i⟩ ⟨h0, h1, h3, hm, h4⟩ N hN
  rw [round4]
  obtain ⟨i, rfl⟩ : ∃ a : Nat, i = a := ⟨i.toNat, by omega⟩
  dsimp only at hN
  rw [Int.toNat_natCast] at h4
  have h3' : o.length ≤ 1073741824 := h3
  refine bif_d (fun hj => ?_) (fun hj => ?_)
  · rw [range_cons (by omega), List.all_cons] at h4
    refine ⟨rfl, by omega, by omega, by omega, h3, hm, ?_⟩
    rw [Int.toNat_natCast, w64n (by omega)]
    show bif ordOK cs o i then _ else _
    refine bif_i (fun e => ?_) (fun e => ?_)
    · rw [e, Bool.true_and] at h4
      exact hN _ ⟨by omega, by omega, h3, hm, by rw [Int.toNat_natCast]; exact h4⟩ (by dsimp only; omega)
    · rw [e, Bool.false_and, cond_false] at h4
      exact h4
  · rw [show o.length - i = 0 by omega] at h4
    exact h4
theorem loop18 (v : V18) (X : Nat → St → Prop) (R : St → Prop) : Q18 v X R → ∃ m, loopN C callF keep18 3 body18 ⟨0, [1], fun _ => False, X, R⟩ m (st18 v) := by
  refine loop_ind (fun v => Q18 v X R) (fun v => v.2.2.2.1.toNat - v.2.2.2.2.1.toNat) ?_ v
  rintro ⟨cs, o, n, i, j, cells, c, x⟩ ⟨h0, h1, h2, h3, hm, rfl, hl, h4⟩ N hN
  rw [round18]
  obtain ⟨i, rfl⟩ : ∃ a : Nat, i = a := ⟨i.toNat, by omega⟩
  obtain ⟨j, rfl⟩ : ∃ a : Nat, j = a := ⟨j.toNat, by omega⟩
  dsimp only at hN
  rw [Int.toNat_natCast, Int.toNat_natCast] at h4
  have h3' : o.length ≤ 1073741824 := h3
  refine bif_d (fun hj => ?_) (fun hj => ?_)
  · rw [range_cons (by omega), lk] at h4
    rw [Int.toNat_natCast, w64n (by omega)]
    obtain ⟨b1, b2⟩ := hm _ (C.F9.getD_mem (show j < o.length by omega) 0)
    refine ⟨by omega, by omega, b1, b2, bif_i (fun e => ⟨by omega, by omega, by omega, ?_⟩) (fun e => ?_)⟩
    · rw [show ((cat cs o j).2.2.1.2.1 == c.2.2.1.2.1) = true from e, cond_true] at h4
      exact hN _ ⟨by omega, by omega, h2, h3, hm, rfl, hl, by rw [Int.toNat_natCast, Int.toNat_natCast]; exact h4⟩ (by dsimp only; omega)
    · rw [show ((cat cs o j).2.2.1.2.1 == c.2.2.1.2.1) = false from e, cond_false] at h4
      exact hN _ ⟨by omega, by omega, h2, h3, hm, rfl, hl, by rw [Int.toNat_natCast, Int.toNat_natCast]; exact h4⟩ (by dsimp only; omega)
  · rw [show i - j = 0 by omega] at h4
    exact h4
theorem loop13 (v : V13) (X : Nat → St → Prop) (R : St → Prop) : Q13 v X R → ∃ m, loopN C callF keep13 1 body13 ⟨0, [], fun _ => False, X, R⟩ m (st13 v) := by
  refine loop_ind (fun v => Q13 v X R) (fun v => v.2.1.length - v.2.2.2.1.toNat) ?_ v
  rintro ⟨cs, o, n, i, cells⟩ ⟨h0, h1, h3, hm, rfl, hl, hx, hc, h4⟩ N hN
  rw [round13]
  obtain ⟨i, rfl⟩ : ∃ a : Nat, i = a := ⟨i.toNat, by omega⟩
  dsimp only at hN
  rw [Int.toNat_natCast] at h4
  have h3' : o.length ≤ 1073741824 := h3
  refine bif_d (fun hj => ?_) (fun hj => ?_)
  · have hi : i < o.length := by omega
    rw [range_cons hi, rr] at h4
    obtain ⟨b1, b2⟩ := hm _ (C.F9.getD_mem hi 0)
    have hlk := lk_LX cs o cells (cat cs o i).2.2.1.2.1 hx (List.range' 0 i) d60 (Nat.zero_le _)
    have hcc : C.F9.LC (cat cs o i) := hc _ (C.F9.getD_mem (by omega) d30)
    rw [Int.toNat_natCast, w64n (by omega)]
    refine ⟨by omega, by omega, b1, b2, rfl, by omega, by omega, by omega, h3, hm, rfl, hl, F26_pre _ _ hlk, bif_i (fun e => ?_) (fun e => ⟨by omega, by omega, by omega, ?_⟩)⟩
    · rw [show (!(B.F26.val (cat cs o i) (lk cs o cells (cat cs o i).2.2.1.2.1 (List.range' 0 i) d60)).1) = true from e, cond_true, cond_false] at h4
      exact h4
    · rw [show (!(B.F26.val (cat cs o i) (lk cs o cells (cat cs o i).2.2.1.2.1 (List.range' 0 i) d60)).1) = false from e, cond_false] at h4
      refine hN _ ⟨by omega, by omega, h3, hm, rfl, by rw [List.length_set]; exact hl, fun y hy => ?_, hc, by rw [Int.toNat_natCast]; exact h4⟩ (by dsimp only; omega)
      rcases List.mem_or_eq_of_mem_set hy with hy | rfl
      · exact hx y hy
      · exact F26_LX _ _ hcc hlk
  · rw [show o.length - i = 0 by omega] at h4
    exact h4 cells
def val (cs : List D30) (o : List Int) : Bool := cs.all B.F25.val && (lst cs [] o && ((List.range' 0 cs.length).all (F36.inOr cs o) && ((List.range' 0 o.length).all (ordOK cs o) && rr cs o (List.range' 0 o.length) (List.replicate o.length d60))))
theorem spec (cs : List D30) (o : List Int) (k : AV → Prop) (h : AllP [cs.length ≤ LB, o.length ≤ LB, ∀ c ∈ cs, C.F9.LC c]) (hk : k (.v .bool (val cs o))) : Main cs o k := by
  obtain ⟨hc, ho, hl, _⟩ := h
  have ho' : o.length ≤ 1073741824 := ho
  unfold val at hk
  refine ⟨hc, bif_i (fun e => ?_) (fun e => ⟨ho, bif_i (fun e1 => ?_) (fun e1 => ⟨hc, ho, bif_i (fun e2 => ?_) (fun e2 => ?_)⟩)⟩)⟩
  · rw [show cs.all B.F25.val = false by simpa using e] at hk; exact hk
  · rw [show lst cs [] o = false by simpa using e1, Bool.false_and, Bool.and_false] at hk; exact hk
  · rw [show (List.range' 0 cs.length).all (F36.inOr cs o) = false by simpa using e2, Bool.false_and, Bool.and_false, Bool.and_false] at hk; exact hk
  have g : cs.all B.F25.val = true := by simpa using e
  have g1 : lst cs [] o = true := by simpa using e1
  have g2 : (List.range' 0 cs.length).all (F36.inOr cs o) = true := by simpa using e2
  rw [g, g1, g2, Bool.true_and, Bool.true_and, Bool.true_and] at hk
  have hm : InR cs o := fun y hy => by
    have := lst_in o [] g1 y hy
    unfold okAt at this
    simp at this
    omega
  refine ⟨rfl, by omega, by omega, ho, hm, ?_⟩
  show bif (List.range' 0 o.length).all (ordOK cs o) then _ else _
  refine bif_i (fun e3 => ?_) (fun e3 => ?_)
  · rw [e3, Bool.true_and] at hk
    rw [Int.toNat_natCast]
    refine ⟨rfl, by omega, by omega, rfl, by omega, by omega, ho, hm, rfl, by simp, fun y hy => ?_, hl, ?_⟩
    · rw [List.eq_of_mem_replicate hy]; exact Nat.zero_le _
    · show bif rr cs o (List.range' 0 o.length) (List.replicate o.length d60) then _ else _
      refine bif_i (fun e4 => ?_) (fun e4 => ?_)
      · rw [e4] at hk; exact fun _ => hk
      · rw [e4] at hk; exact hk
  · rw [e3, Bool.false_and] at hk; exact hk
noncomputable def ts : List Ty := [(.sl T30), (.sl (.int .i64))]
noncomputable def G : List AV → PV := pg2 (.sl T30) (.sl (.int .i64)) (fun calls order => [calls.length ≤ LB, order.length ≤ LB, ∀ c ∈ calls, C.F9.LC c]) (fun calls order => .v .bool (val calls order))
theorem loopsOK : LoopsOK C callF (bodyOf Try.f19) := loopsOK_seek (tbl := loops) (fun _ => rfl) (by kernel_rfl) (List.forall_mem_cons.2 ⟨mkL_ok loop4, List.forall_mem_cons.2 ⟨mkL_ok loop7, List.forall_mem_cons.2 ⟨mkL_ok loop13, List.forall_mem_cons.2 ⟨mkL_ok loop18, fun _ h => nomatch h⟩⟩⟩⟩)
theorem pursOK : ∀ g ts F, C.pur g = some (ts, F) → SoundP Try.prog g F := purOf_ok (l := purs) (List.forall_mem_cons.2 ⟨Go.Proofs.Ytdjdbjcapenjeaa.B.F26.ok, List.forall_mem_cons.2 ⟨Go.Proofs.Ytdjdbjcapenjeaa.C.F34.ok, List.forall_mem_cons.2 ⟨Go.Proofs.Ytdjdbjcapenjeaa.D.F35.ok, List.forall_mem_cons.2 ⟨Go.Proofs.Ytdjdbjcapenjeaa.D.F36.ok, List.forall_mem_cons.2 ⟨Go.Proofs.Ytdjdbjcapenjeaa.A.F42.ok, fun _ h => nomatch h⟩⟩⟩⟩⟩)
theorem cfsOK : ∀ g, SoundF Try.prog g (callF g) := fun g => soundF_none g
theorem ok : SoundP Try.prog 19 G := by
  unfold G
  refine soundP_pg2 (soundF_run (C := C) (callF := callF) (tabOK C rfl rfl rfl) cfsOK pursOK Try.func19 (by kernel_rfl) loopsOK) [.bool] fun calls order h => ?_
  rw [main]
  exact spec calls order _ h rfl
end F19

end Go.Proofs.Ytdjdbjcapenjeaa.G
