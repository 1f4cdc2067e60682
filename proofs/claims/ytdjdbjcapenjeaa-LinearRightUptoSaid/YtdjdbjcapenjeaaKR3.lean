/- calls of which no error may be found -/
import Derived.Test.YtdjdbjcapenjeaaDxTab
import Derived.Test.YtdjdbjcapenjeaaDx3
import Derived.Test.YtdjdbjcapenjeaaDxTy
import Derived.Test.YtdjdbjcapenjeaaKR2
set_option linter.unusedVariables false
set_option maxRecDepth 100000
open Go Go.Proofs Go.Proofs.Ytdjdbjcapenjeaa.Dx Go.Proofs.Ytdjdbjcapenjeaa.Dx.TYtdjdbjcapenjeaa
namespace Go.Proofs.Ytdjdbjcapenjeaa.KR3
noncomputable def mkT (l : List (Nat × AV)) : List AV := (List.range 117).map fun i => (seek l i).getD .dead
abbrev V7' : Type := List D30 × Int × D30
noncomputable def cst7 (v : V7') : St := ⟨mkT [(0, .v (.sl T30) v.1), (3, .v (.int .i64) v.2.1), (4, .v .ref (.ptr 0 []))], [.var T30 v.2.2 30]⟩
noncomputable def cdec7 (s : St) : Option V7' := match gV (.sl T30) (s.T.getD 0 .dead), gV (.int .i64) (s.T.getD 3 .dead), gVar T30 s.H[0]? with | some a, some b, some c => some (a, b, c) | _, _, _ => none
abbrev V8' : Type := List D30 × Int × Bool × D30
noncomputable def cst8 (v : V8') : St := ⟨mkT [(0, .v (.sl T30) v.1), (3, .v (.int .i64) v.2.1), (4, .v .ref (.ptr 0 [])), (5, .v .bool v.2.2.1)], [.var T30 v.2.2.2 30]⟩
noncomputable def cdec8 (s : St) : Option V8' := match gV (.sl T30) (s.T.getD 0 .dead), gV (.int .i64) (s.T.getD 3 .dead), gV .bool (s.T.getD 5 .dead), gVar T30 s.H[0]? with | some a, some b, some x, some c => some (a, b, x, c) | _, _, _, _ => none
abbrev V9' : Type := List D30 × Int × Bool × Bool × D30
noncomputable def cst9 (v : V9') : St := ⟨mkT [(0, .v (.sl T30) v.1), (3, .v (.int .i64) v.2.1), (4, .v .ref (.ptr 0 [])), (5, .v .bool v.2.2.1), (6, .v .bool v.2.2.2.1)], [.var T30 v.2.2.2.2 30]⟩
noncomputable def cdec9 (s : St) : Option V9' := match gV (.sl T30) (s.T.getD 0 .dead), gV (.int .i64) (s.T.getD 3 .dead), gV .bool (s.T.getD 5 .dead), gV .bool (s.T.getD 6 .dead), gVar T30 s.H[0]? with | some a, some b, some x, some y, some c => some (a, b, x, y, c) | _, _, _, _, _ => none
abbrev VA' : Type := List D30 × Int × Bool × Bool × Bool × D30
noncomputable def cstA (v : VA') : St := ⟨mkT [(0, .v (.sl T30) v.1), (3, .v (.int .i64) v.2.1), (5, .v .bool v.2.2.1), (6, .v .bool v.2.2.2.1), (7, .v .bool v.2.2.2.2.1)], [.var T30 v.2.2.2.2.2 30]⟩
def lostF (c : D30) : Bool := c.2.2.2.2.2.2.1 == -1 && (c.2.2.2.1 == 0 && ((c.2.2.2.2.1.length : Int) == 0))
def gotF (c : D30) : Bool := decide (c.2.2.2.2.2.2.1 > c.2.2.2.2.2.1) && (c.2.2.1.1 == 1 && (c.2.2.2.1 == 1 || (c.2.2.2.1 == 2 && ((c.2.2.2.2.1.length : Int) == 0))))
def setF (c : D30) : Bool := decide (c.2.2.2.2.2.2.1 > c.2.2.2.2.2.1) && (c.2.2.1.1 == 2 && (c.2.2.2.1 == 1 && ((c.2.2.2.2.1.length : Int) == 0)))
noncomputable def cutT : List CutRow := [(7, ([0, 3, 4, 5], 1, mkX cdec7 cst7 fun v κ => κ (cst8 (v.1, v.2.1, lostF v.2.2, v.2.2)))), (8, ([0, 3, 4, 5, 6], 1, mkX cdec8 cst8 fun v κ => κ (cst9 (v.1, v.2.1, v.2.2.1, gotF v.2.2.2, v.2.2.2)))), (9, ([0, 3, 5, 6, 7], 1, mkX cdec9 cst9 fun v κ => κ (cstA (v.1, v.2.1, v.2.2.1, v.2.2.2.1, setF v.2.2.2.2, v.2.2.2.2))))]
namespace F23
abbrev V2 := (List D30) × Int
noncomputable def st2 (v : V2) : St := ⟨[.v (.sl T30) (v.1), .dead, .dead, .v (.int .i64) (v.2), .dead, .dead, .dead, .dead, .dead, .dead, .dead, .dead, .dead, .dead, .dead, .dead, .dead, .dead, .dead, .dead, .dead, .dead, .dead, .dead, .dead, .dead, .dead, .dead, .dead, .dead, .dead, .dead, .dead, .dead, .dead, .dead, .dead, .dead, .dead, .dead, .dead, .dead, .dead, .dead, .dead, .dead, .dead, .dead, .dead, .dead, .dead, .dead, .dead, .dead, .dead, .dead, .dead, .dead, .dead, .dead, .dead, .dead, .dead, .dead, .dead, .dead, .dead, .dead, .dead, .dead, .dead, .dead, .dead, .dead, .dead, .dead, .dead, .dead, .dead, .dead, .dead, .dead, .dead, .dead, .dead, .dead, .dead, .dead, .dead, .dead, .dead, .dead, .dead, .dead, .dead, .dead, .dead, .dead, .dead, .dead, .dead, .dead, .dead, .dead, .dead, .dead, .dead, .dead, .dead, .dead, .dead, .dead, .dead, .dead, .dead, .dead, .dead], []⟩
noncomputable def dec2 (s : St) : Option V2 := match gV (.sl T30) (s.T.getD 0 .dead), gV (.int .i64) (s.T.getD 3 .dead) with | some a0, some a3 => some (a0, a3) | _, _ => none
noncomputable def keep2 : List Nat := [0, 3]
noncomputable def body2 : Code := bodyAt (loopsOf (bodyOf Try.f23)) 2
noncomputable def s0 (x2 : Bool) : St := ⟨[.dead, .dead, .v .bool x2, .dead, .dead, .dead, .dead, .dead, .dead, .dead, .dead, .dead, .dead, .dead, .dead, .dead, .dead, .dead, .dead, .dead, .dead, .dead, .dead, .dead, .dead, .dead, .dead, .dead, .dead, .dead, .dead, .dead, .dead, .dead, .dead, .dead, .dead, .dead, .dead, .dead, .dead, .dead, .dead, .dead, .dead, .dead, .dead, .dead, .dead, .dead, .dead, .dead, .dead, .dead, .dead, .dead, .dead, .dead, .dead, .dead, .dead, .dead, .dead, .dead, .dead, .dead, .dead, .dead, .dead, .dead, .dead, .dead, .dead, .dead, .dead, .dead, .dead, .dead, .dead, .dead, .dead, .dead, .dead, .dead, .dead, .dead, .dead, .dead, .dead, .dead, .dead, .dead, .dead, .dead, .dead, .dead, .dead, .dead, .dead, .dead, .dead, .dead, .dead, .dead, .dead, .dead, .dead, .dead, .dead, .dead, .dead, .dead, .dead, .dead, .dead, .dead, .dead], []⟩
noncomputable def s1 : St := ⟨[.dead, .dead, .dead, .dead, .dead, .dead, .dead, .dead, .dead, .dead, .dead, .dead, .dead, .dead, .dead, .dead, .dead, .dead, .dead, .dead, .dead, .dead, .dead, .dead, .dead, .dead, .dead, .dead, .dead, .dead, .dead, .dead, .dead, .dead, .dead, .dead, .dead, .dead, .dead, .dead, .dead, .dead, .dead, .dead, .dead, .dead, .dead, .dead, .dead, .dead, .dead, .dead, .dead, .dead, .dead, .dead, .dead, .dead, .dead, .dead, .dead, .dead, .dead, .dead, .dead, .dead, .dead, .dead, .dead, .dead, .dead, .dead, .dead, .dead, .dead, .dead, .dead, .dead, .dead, .dead, .dead, .dead, .dead, .dead, .dead, .dead, .dead, .dead, .dead, .dead, .dead, .dead, .dead, .dead, .dead, .dead, .dead, .dead, .dead, .dead, .dead, .dead, .dead, .dead, .dead, .dead, .dead, .dead, .dead, .dead, .dead, .dead, .dead, .dead, .dead, .dead, .dead], []⟩
/-- A call of which no error may be found. -/
def clF (cs : List D30) (c : D30) : Bool := !(c.2.2.1.2.1 != (cs.getD 0 d30).2.2.1.2.1) && (!decide (c.2.2.2.2.2.1 < 0) && (!(c.2.2.1.1 != 1 && c.2.2.1.1 != 2) && (lostF c || (gotF c || setF c))))
def Q2 : V2 → (Nat → St → Prop) → (St → Prop) → Prop := fun (cs, i) X R => 0 ≤ i ∧ i ≤ cs.length ∧ cs.length ≤ LB ∧ bif (cs.drop i.toNat).all (clF cs) then X 0 s1 else R (s0 false)
noncomputable def purs : List (Nat × (List Ty × (List AV → PV))) := []
noncomputable def callF (g : FuncId) : CF := fun _ _ _ => False
noncomputable def L2 : K → Nat → St → Prop := mkL dec2 st2 0 0 [] Q2
noncomputable def loops : List (Nat × (List Nat × (K → Nat → St → Prop))) := [(2, (keep2, L2))]
noncomputable def C : Ctx := { ti := ti, meth := meth, can := can, pur := purOf purs, loops := fun i => seek loops i, gh := fun _ => [], xk := fun i => seek [(0, ([], 0))] i, cuts := fun i => seek cutT i, gk := fun i => seek [(7, ([0, 3, 4], 1))] i, rk := some ([2], 0) }
noncomputable def Round2 (x0 : (List D30)) (x3 : Int) (N : St → Prop) (X : Nat → St → Prop) (R : St → Prop) : Prop :=
  (bif decide (x3 < (↑x0.length : Int)) then (((0 : Int) ≤ x3) ∧ ((x3 < (↑x0.length : Int)) ∧ (((0 : Int) ≤ (0 : Int)) ∧ (((0 : Int) < (↑x0.length : Int)) ∧ (bif (x0.getD x3.toNat d30).snd.snd.fst.snd.fst != (x0.getD (Int.toNat (0 : Int)) d30).snd.snd.fst.snd.fst then R (s0 (false)) else (bif decide ((x0.getD x3.toNat d30).snd.snd.snd.snd.snd.fst < (0 : Int)) then R (s0 (false)) else (bif (x0.getD x3.toNat d30).snd.snd.fst.fst != (1 : Int) then (bif (x0.getD x3.toNat d30).snd.snd.fst.fst != (2 : Int) then R (s0 (false)) else (cst7 (x0, x3, x0.getD x3.toNat d30) = cst7 (x0, x3, x0.getD x3.toNat d30) ∧ (cst8 (x0, x3, lostF (x0.getD x3.toNat d30), x0.getD x3.toNat d30) = cst8 (x0, x3, lostF (x0.getD x3.toNat d30), x0.getD x3.toNat d30) ∧ (cst9 (x0, x3, lostF (x0.getD x3.toNat d30), gotF (x0.getD x3.toNat d30), x0.getD x3.toNat d30) = cst9 (x0, x3, lostF (x0.getD x3.toNat d30), gotF (x0.getD x3.toNat d30), x0.getD x3.toNat d30) ∧ (bif !lostF (x0.getD x3.toNat d30) then (bif !gotF (x0.getD x3.toNat d30) then (bif !setF (x0.getD x3.toNat d30) then R (s0 (false)) else N (st2 (x0, IntKind.i64.wrap (x3 + (1 : Int))))) else N (st2 (x0, IntKind.i64.wrap (x3 + (1 : Int))))) else N (st2 (x0, IntKind.i64.wrap (x3 + (1 : Int))))))))) else (cst7 (x0, x3, x0.getD x3.toNat d30) = cst7 (x0, x3, x0.getD x3.toNat d30) ∧ (cst8 (x0, x3, lostF (x0.getD x3.toNat d30), x0.getD x3.toNat d30) = cst8 (x0, x3, lostF (x0.getD x3.toNat d30), x0.getD x3.toNat d30) ∧ (cst9 (x0, x3, lostF (x0.getD x3.toNat d30), gotF (x0.getD x3.toNat d30), x0.getD x3.toNat d30) = cst9 (x0, x3, lostF (x0.getD x3.toNat d30), gotF (x0.getD x3.toNat d30), x0.getD x3.toNat d30) ∧ (bif !lostF (x0.getD x3.toNat d30) then (bif !gotF (x0.getD x3.toNat d30) then (bif !setF (x0.getD x3.toNat d30) then R (s0 (false)) else N (st2 (x0, IntKind.i64.wrap (x3 + (1 : Int))))) else N (st2 (x0, IntKind.i64.wrap (x3 + (1 : Int))))) else N (st2 (x0, IntKind.i64.wrap (x3 + (1 : Int))))))))))))))) else X 0 (s1))
theorem round2 (x0 : (List D30)) (x3 : Int) (N : St → Prop) (X : Nat → St → Prop) (R : St → Prop) : exec C callF body2 ⟨0, [0], fun s' => cond (Nat.ble 0 s'.H.length) (N (scrub keep2 0 s')) False, X, R⟩ (st2 (x0, x3)) = Round2 x0 x3 N X R := by kernel_rfl
noncomputable def Main (calls : (List D30)) (k : AV → Prop) : Prop :=
  (st2 (calls, (0 : Int)) = st2 (calls, (0 : Int)) ∧ (((0 : Int) ≤ (0 : Int)) ∧ (((0 : Int) ≤ (↑calls.length : Int)) ∧ ((calls.length ≤ LB) ∧ (bif calls.all (clF calls) then k (.v .bool (true)) else k (.v .bool (false)))))))
theorem main (calls : (List D30)) (k : AV → Prop) : (runFn C callF Try.f23 [.v (.sl (.pair (.int .u8) (.pair (.int .u64) (.pair (.pair (.int .u8) (.pair (.int .u64) (.pair (.int .u64) (.pair (.sl (.int .u8)) (.pair (.sl (.int .u8)) (.pair .bool (.pair (.int .u8) .unit))))))) (.pair (.int .u8) (.pair (.sl (.int .u8)) (.pair (.int .i64) (.pair (.int .i64) .unit)))))))) calls] [] (fun r H => coRes H [.bool] r k)) = Main calls k := by kernel_rfl
theorem cut7 (t : List D30) (i : Int) (c : D30) (κ : St → Prop) : regRunC C callF (bodyAt (regsOf (bodyOf Try.f23)) 7) (cutK [0, 3, 4, 5] 1 κ) (cst7 (t, i, c)) =
    (bif c.2.2.2.2.2.2.1 == -1 then (bif c.2.2.2.1 == 0 then κ (cst8 (t, i, (c.2.2.2.2.1.length : Int) == 0, c)) else κ (cst8 (t, i, false, c))) else κ (cst8 (t, i, false, c))) := by kernel_rfl
theorem cut8 (t : List D30) (i : Int) (x : Bool) (c : D30) (κ : St → Prop) : regRunC C callF (bodyAt (regsOf (bodyOf Try.f23)) 8) (cutK [0, 3, 4, 5, 6] 1 κ) (cst8 (t, i, x, c)) =
    (bif decide (c.2.2.2.2.2.2.1 > c.2.2.2.2.2.1) then (bif c.2.2.1.1 == 1 then (bif c.2.2.2.1 == 1 then κ (cst9 (t, i, x, true, c)) else (bif c.2.2.2.1 == 2 then κ (cst9 (t, i, x, (c.2.2.2.2.1.length : Int) == 0, c)) else κ (cst9 (t, i, x, false, c)))) else κ (cst9 (t, i, x, false, c))) else κ (cst9 (t, i, x, false, c))) := by kernel_rfl
theorem cut9 (t : List D30) (i : Int) (x y : Bool) (c : D30) (κ : St → Prop) : regRunC C callF (bodyAt (regsOf (bodyOf Try.f23)) 9) (cutK [0, 3, 5, 6, 7] 1 κ) (cst9 (t, i, x, y, c)) =
    (bif decide (c.2.2.2.2.2.2.1 > c.2.2.2.2.2.1) then (bif c.2.2.1.1 == 2 then (bif c.2.2.2.1 == 1 then κ (cstA (t, i, x, y, (c.2.2.2.2.1.length : Int) == 0, c)) else κ (cstA (t, i, x, y, false, c))) else κ (cstA (t, i, x, y, false, c))) else κ (cstA (t, i, x, y, false, c))) := by kernel_rfl
theorem cutsOK : ∀ p ∈ cutT, ∀ κ s, p.2.2.2 s κ → regRunC C callF (bodyAt (regsOf (bodyOf Try.f23)) p.1) (cutK p.2.1 p.2.2.1 κ) s := by
  refine List.forall_mem_cons.2 ⟨mkX_ok ?_, List.forall_mem_cons.2 ⟨mkX_ok ?_, List.forall_mem_cons.2 ⟨mkX_ok ?_, fun _ h => nomatch h⟩⟩⟩
  · rintro ⟨t, i, c⟩ κ h
    rw [cut7]
    unfold lostF at h
    dsimp only at h
    cases h1 : (c.2.2.2.2.2.2.1 == -1) with
    | false => rw [h1, Bool.false_and] at h; exact h
    | true =>
      cases h2 : (c.2.2.2.1 == 0) with
      | false => rw [h1, h2, Bool.true_and, Bool.false_and] at h; exact h
      | true => rw [h1, h2, Bool.true_and, Bool.true_and] at h; exact h
  · rintro ⟨t, i, x, c⟩ κ h
    rw [cut8]
    unfold gotF at h
    dsimp only at h
    cases h1 : decide (c.2.2.2.2.2.2.1 > c.2.2.2.2.2.1) with
    | false => rw [h1, Bool.false_and] at h; exact h
    | true =>
      cases h2 : (c.2.2.1.1 == 1) with
      | false => rw [h1, h2, Bool.true_and, Bool.false_and] at h; exact h
      | true =>
        cases h3 : (c.2.2.2.1 == 1) with
        | true => rw [h1, h2, h3, Bool.true_and, Bool.true_and, Bool.true_or] at h; exact h
        | false =>
          cases h4 : (c.2.2.2.1 == 2) with
          | false => rw [h1, h2, h3, h4, Bool.true_and, Bool.true_and, Bool.false_or, Bool.false_and] at h; exact h
          | true => rw [h1, h2, h3, h4, Bool.true_and, Bool.true_and, Bool.false_or, Bool.true_and] at h; exact h
  · rintro ⟨t, i, x, y, c⟩ κ h
    rw [cut9]
    unfold setF at h
    dsimp only at h
    cases h1 : decide (c.2.2.2.2.2.2.1 > c.2.2.2.2.2.1) with
    | false => rw [h1, Bool.false_and] at h; exact h
    | true =>
      cases h2 : (c.2.2.1.1 == 2) with
      | false => rw [h1, h2, Bool.true_and, Bool.false_and] at h; exact h
      | true =>
        cases h3 : (c.2.2.2.1 == 1) with
        | true => rw [h1, h2, h3, Bool.true_and, Bool.true_and, Bool.true_and] at h; exact h
        | false => rw [h1, h2, h3, Bool.true_and, Bool.true_and, Bool.false_and] at h; exact h
theorem loop2 (v : V2) (X : Nat → St → Prop) (R : St → Prop) : Q2 v X R → ∃ m, loopN C callF keep2 0 body2 ⟨0, [], fun _ => False, X, R⟩ m (st2 v) := by
  refine loop_ind (fun v => Q2 v X R) (fun (cs, i) => cs.length - i.toNat) ?_ v
  rintro ⟨cs, i⟩ ⟨h0, h1, h2, h4⟩ N hN
  rw [round2]
  obtain ⟨j, rfl⟩ : ∃ a : Nat, i = a := ⟨i.toNat, by omega⟩
  dsimp only at hN
  rw [Int.toNat_natCast] at h4
  have h2' : cs.length ≤ 1073741824 := h2
  refine bif_d (fun hj => ?_) (fun hj => ?_)
  · have hn : j < cs.length := by omega
    rw [drop_cons hn d30, List.all_cons, clF] at h4
    rw [Int.toNat_natCast, w64n (by omega)]
    generalize hc : cs.getD j d30 = c at h4 ⊢
    have next : (bif (cs.drop (j + 1)).all (clF cs) then X 0 s1 else R (s0 false)) → N (st2 (cs, ((j + 1 : Nat) : Int))) := fun h4 =>
      hN (cs, ((j + 1 : Nat) : Int)) ⟨by omega, by omega, h2, by rw [Int.toNat_natCast]; exact h4⟩ (by dsimp only; omega)
    have fin : ∀ b : Bool, (bif b && (cs.drop (j + 1)).all (clF cs) then X 0 s1 else R (s0 false)) → (b = false → R (s0 false)) ∧ (b = true → N (st2 (cs, ((j + 1 : Nat) : Int)))) := fun b h =>
      ⟨fun e => by rw [e, Bool.false_and, cond_false] at h; exact h, fun e => by rw [e, Bool.true_and] at h; exact next h⟩
    have last : ((bif (lostF c || (gotF c || setF c)) && (cs.drop (j + 1)).all (clF cs) then X 0 s1 else R (s0 false))) → (bif !lostF c then bif !gotF c then bif !setF c then R (s0 false) else N (st2 (cs, ((j + 1 : Nat) : Int))) else N (st2 (cs, ((j + 1 : Nat) : Int))) else N (st2 (cs, ((j + 1 : Nat) : Int)))) := fun h => by
      obtain ⟨f1, f2⟩ := fin _ h
      cases a1 : lostF c with
      | true => exact f2 (by rw [a1]; rfl)
      | false =>
        cases a2 : gotF c with
        | true => exact f2 (by rw [a1, a2]; rfl)
        | false =>
          cases a3 : setF c with
          | true => exact f2 (by rw [a1, a2, a3]; rfl)
          | false => exact f1 (by rw [a1, a2, a3]; rfl)
    refine ⟨by omega, by omega, Int.le_refl 0, by omega, bif_i (fun e => ?_) (fun e => bif_i (fun e2 => ?_) (fun e2 => bif_i (fun e3 => bif_i (fun e4 => ?_) (fun e4 => ⟨?_, ?_, ?_, ?_⟩)) (fun e3 => ⟨?_, ?_, ?_, ?_⟩)))⟩
    · exact (fin _ h4).1 (by rw [show (c.2.2.1.2.1 != (cs.getD 0 d30).2.2.1.2.1) = true from e]; rfl)
    · exact (fin _ h4).1 (by rw [e2, Bool.not_true, Bool.false_and, Bool.and_false])
    · exact (fin _ h4).1 (by rw [show (c.2.2.1.1 != 1) = true from e3, show (c.2.2.1.1 != 2) = true from e4]; simp)
    · rfl
    · rfl
    · rfl
    · refine last ?_
      rw [show (c.2.2.1.2.1 != (cs.getD 0 d30).2.2.1.2.1) = false from e, e2, show (c.2.2.1.1 != 2) = false from e4, Bool.and_false, Bool.not_false, Bool.true_and, Bool.true_and, Bool.true_and] at h4
      exact h4
    · rfl
    · rfl
    · rfl
    · refine last ?_
      rw [show (c.2.2.1.2.1 != (cs.getD 0 d30).2.2.1.2.1) = false from e, e2, show (c.2.2.1.1 != 1) = false from e3, Bool.false_and, Bool.not_false, Bool.true_and, Bool.true_and, Bool.true_and] at h4
      exact h4
  · rw [List.drop_eq_nil_of_le (by omega), List.all_nil, cond_true] at h4
    exact h4
theorem spec (cs : List D30) (k : AV → Prop) (h : AllP [cs.length ≤ LB]) (hk : k (.v .bool (cs.all (clF cs)))) : Main cs k := by
  refine ⟨rfl, Int.le_refl 0, by omega, h.1, ?_⟩
  show bif cs.all (clF cs) then k _ else k _
  cases e : cs.all (clF cs) with
  | true => rw [e] at hk; exact hk
  | false => rw [e] at hk; exact hk
noncomputable def ts : List Ty := [(.sl T30)]
noncomputable def G : List AV → PV := pg1 (.sl T30) (fun calls => [calls.length ≤ LB]) (fun calls => .v .bool (calls.all (clF calls)))
theorem loopsOK : LoopsOK C callF (bodyOf Try.f23) := loopsOK_cuts (tbl := loops) (ctbl := cutT) (fun _ => rfl) (by kernel_rfl) (List.forall_mem_cons.2 ⟨mkL_ok loop2, fun _ h => nomatch h⟩) (fun _ => rfl) (by kernel_rfl) cutsOK
theorem pursOK : ∀ g ts F, C.pur g = some (ts, F) → SoundP Try.prog g F := purOf_ok (l := purs) (fun _ h => nomatch h)
theorem cfsOK : ∀ g, SoundF Try.prog g (callF g) := fun g => soundF_none g
theorem ok : SoundP Try.prog 23 G := by
  unfold G
  refine soundP_pg1 (soundF_run (C := C) (callF := callF) (tabOK C rfl rfl rfl) cfsOK pursOK Try.func23 (by kernel_rfl) loopsOK) [.bool] fun calls h => ?_
  rw [main]
  exact spec calls _ h rfl
end F23

end Go.Proofs.Ytdjdbjcapenjeaa.KR3
