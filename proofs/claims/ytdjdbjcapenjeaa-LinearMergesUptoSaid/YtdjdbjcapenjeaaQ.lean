/- Merge: the document's parts -/
import Derived.Test.YtdjdbjcapenjeaaDxTab
import Derived.Test.YtdjdbjcapenjeaaDx3
import Derived.Test.YtdjdbjcapenjeaaDxTy
import Derived.Test.YtdjdbjcapenjeaaM
import Derived.Test.YtdjdbjcapenjeaaN
import Derived.Test.YtdjdbjcapenjeaaA
set_option linter.unusedVariables false
set_option maxRecDepth 100000
open Go Go.Proofs Go.Proofs.Ytdjdbjcapenjeaa.Dx Go.Proofs.Ytdjdbjcapenjeaa.Dx.TYtdjdbjcapenjeaa
namespace Go.Proofs.Ytdjdbjcapenjeaa.Q
open D M N
namespace F39
abbrev V2 := (List D30) × (List Int) × Int × Int
noncomputable def st2 (v : V2) : St := ⟨[.v (.sl T30) (v.1), .v (.sl (.int .i64)) (v.2.1), .v (.int .i64) (v.2.2.1), .dead, .dead, .dead, .dead, .v (.int .i64) (v.2.2.2), .dead, .dead, .dead, .dead, .dead, .dead, .dead, .dead, .dead, .dead, .dead, .dead, .dead, .dead, .dead, .dead, .dead, .dead], []⟩
noncomputable def dec2 (s : St) : Option V2 := match gV (.sl T30) (s.T.getD 0 .dead), gV (.sl (.int .i64)) (s.T.getD 1 .dead), gV (.int .i64) (s.T.getD 2 .dead), gV (.int .i64) (s.T.getD 7 .dead) with | some a0, some a1, some a2, some a7 => some (a0, a1, a2, a7) | _, _, _, _ => none
noncomputable def keep2 : List Nat := [0, 1, 2, 7]
noncomputable def body2 : Code := bodyAt (loopsOf (bodyOf Try.f39)) 2
noncomputable def s0 (x6 : Bool) : St := ⟨[.dead, .dead, .dead, .dead, .dead, .dead, .v .bool x6, .dead, .dead, .dead, .dead, .dead, .dead, .dead, .dead, .dead, .dead, .dead, .dead, .dead, .dead, .dead, .dead, .dead, .dead, .dead], []⟩
noncomputable def s1 : St := ⟨[.dead, .dead, .dead, .dead, .dead, .dead, .dead, .dead, .dead, .dead, .dead, .dead, .dead, .dead, .dead, .dead, .dead, .dead, .dead, .dead, .dead, .dead, .dead, .dead, .dead, .dead], []⟩
def Q2 : V2 → (Nat → St → Prop) → (St → Prop) → Prop := fun (x0, x1, x2, x7) X R => 0 ≤ x7 ∧ x7 ≤ x1.length ∧ x1.length ≤ LB ∧ True ∧ ((∀ y ∈ x1, 0 ≤ y ∧ y < (x0.length : Int)) ∧ 0 ≤ x2 ∧ x2 < (x0.length : Int)) ∧ bif (x1.drop x7.toNat).all (fun y => !A.F42.val (x0.getD y.toNat d30) (x0.getD x2.toNat d30)) then X 0 s1 else R (s0 false)
noncomputable def purs : List (Nat × (List Ty × (List AV → PV))) := [(42, (Go.Proofs.Ytdjdbjcapenjeaa.A.F42.ts, Go.Proofs.Ytdjdbjcapenjeaa.A.F42.G))]
noncomputable def callF (g : FuncId) : CF := fun _ _ _ => False
noncomputable def L2 : K → Nat → St → Prop := mkL dec2 st2 0 0 [] Q2
noncomputable def loops : List (Nat × (List Nat × (K → Nat → St → Prop))) := [(2, (keep2, L2))]
noncomputable def C : Ctx := { ti := ti, meth := meth, can := can, pur := purOf purs, loops := fun i => seek loops i, gh := fun _ => [], xk := fun i => seek [(0, ([], 0))] i, rk := some ([6], 0) }
noncomputable def Round2 (x0 : (List D30)) (x1 : (List Int)) (x2 : Int) (x7 : Int) (N : St → Prop) (X : Nat → St → Prop) (R : St → Prop) : Prop :=
  (bif decide (x7 < (↑x1.length : Int)) then (((0 : Int) ≤ x7) ∧ ((x7 < (↑x1.length : Int)) ∧ (((0 : Int) ≤ x1.getD x7.toNat (0 : Int)) ∧ ((x1.getD x7.toNat (0 : Int) < (↑x0.length : Int)) ∧ (((0 : Int) ≤ x2) ∧ ((x2 < (↑x0.length : Int)) ∧ (bif A.F42.val (x0.getD (Int.toNat (x1.getD x7.toNat (0 : Int))) d30) (x0.getD x2.toNat d30) then R (s0 (false)) else N (st2 (x0, x1, x2, IntKind.i64.wrap (x7 + (1 : Int))))))))))) else X 0 (s1))
theorem round2 (x0 : (List D30)) (x1 : (List Int)) (x2 : Int) (x7 : Int) (N : St → Prop) (X : Nat → St → Prop) (R : St → Prop) : exec C callF body2 ⟨0, [0], fun s' => cond (Nat.ble 0 s'.H.length) (N (scrub keep2 0 s')) False, X, R⟩ (st2 (x0, x1, x2, x7)) = Round2 x0 x1 x2 x7 N X R := by kernel_rfl
noncomputable def Main (calls : (List D30)) (left : (List Int)) (i : Int) (k : AV → Prop) : Prop :=
  (st2 (calls, left, i, (0 : Int)) = st2 (calls, left, i, (0 : Int)) ∧ (((0 : Int) ≤ (0 : Int)) ∧ (((0 : Int) ≤ (↑left.length : Int)) ∧ ((left.length ≤ LB) ∧ ((True) ∧ (((∀ (y : Int), y ∈ left → (0 : Int) ≤ y ∧ y < (↑calls.length : Int)) ∧ (0 : Int) ≤ i ∧ i < (↑calls.length : Int)) ∧ (bif left.all fun (y : Int) => !A.F42.val (calls.getD y.toNat d30) (calls.getD i.toNat d30) then k (.v .bool (true)) else k (.v .bool (false)))))))))
theorem main (calls : (List D30)) (left : (List Int)) (i : Int) (k : AV → Prop) : (runFn C callF Try.f39 [.v (.sl (.pair (.int .u8) (.pair (.int .u64) (.pair (.pair (.int .u8) (.pair (.int .u64) (.pair (.int .u64) (.pair (.sl (.int .u8)) (.pair (.sl (.int .u8)) (.pair .bool (.pair (.int .u8) .unit))))))) (.pair (.int .u8) (.pair (.sl (.int .u8)) (.pair (.int .i64) (.pair (.int .i64) .unit)))))))) calls, .v (.sl (.int .i64)) left, .v (.int .i64) i] [] (fun r H => coRes H [.bool] r k)) = Main calls left i k := by kernel_rfl
theorem loop2 (v : V2) (X : Nat → St → Prop) (R : St → Prop) : Q2 v X R → ∃ m, loopN C callF keep2 0 body2 ⟨0, [], fun _ => False, X, R⟩ m (st2 v) := by
  refine loop_ind (fun v => Q2 v X R) (fun (x0, x1, x2, x7) => x1.length - x7.toNat) ?_ v
  rintro ⟨x0, x1, x2, x7⟩ ⟨h0, h1, h2, hn, hx, h4⟩ N hN
  rw [round2]
  obtain ⟨j, rfl⟩ : ∃ j : Nat, x7 = j := ⟨x7.toNat, by omega⟩
  dsimp only at hN
  rw [Int.toNat_natCast] at h4
  have h2' : x1.length ≤ 1073741824 := h2
  refine bif_d (fun hj => ?_) (fun hj => ?_)
  · have hjn : j < x1.length := by omega
    rw [drop_cons (l := x1) hjn 0, List.all_cons] at h4
    obtain ⟨hy, hi1, hi2⟩ := id hx
    obtain ⟨y1, y2⟩ := hy _ (C.F9.getD_mem hjn 0)
    refine ⟨by omega, hj, y1, y2, hi1, hi2, ?_⟩
    rw [Int.toNat_natCast]
    cases hp : (fun y => !A.F42.val (x0.getD y.toNat d30) (x0.getD x2.toNat d30)) (x1.getD j 0) with
    | false =>
      try dsimp only at hp
      rw [hp, Bool.false_and, cond_false] at h4
      exact bif_i (fun he => by first | exact h4 | (exfalso; rw [he] at hp; cases hp) | (exfalso; rw [hp] at he; cases he) | exact absurd he (by decide)) (fun he => by first | exact h4 | (exfalso; rw [he] at hp; cases hp) | (exfalso; rw [hp] at he; cases he) | exact absurd he (by decide))
    | true =>
      try dsimp only at hp
      rw [hp, Bool.true_and] at h4
      have hN' : N (st2 (x0, x1, x2, ((j + 1 : Nat) : Int))) := hN _ ⟨by omega, by omega, h2, hn, hx, by rw [Int.toNat_natCast]; exact h4⟩ (by dsimp only; omega)
      rw [w64n (by omega)]
      exact bif_i (fun he => by first | exact hN' | (exfalso; rw [he] at hp; cases hp) | (exfalso; rw [hp] at he; cases he) | exact absurd he (by decide)) (fun he => by first | exact hN' | (exfalso; rw [he] at hp; cases hp) | (exfalso; rw [hp] at he; cases he) | exact absurd he (by decide))
  · rw [List.drop_eq_nil_of_le (by omega)] at h4
    exact h4
theorem spec (cs : List D30) (left : List Int) (i : Int) (k : AV → Prop) (h : AllP [left.length ≤ LB, ∀ y ∈ left, 0 ≤ y ∧ y < (cs.length : Int), 0 ≤ i, i < (cs.length : Int)]) (hk : k (.v .bool (left.all fun y => !A.F42.val (cs.getD y.toNat d30) (cs.getD i.toNat d30)))) : Main cs left i k := by
  obtain ⟨h1, h2, h3, h4, _⟩ := h
  refine ⟨rfl, by omega, by omega, h1, trivial, ⟨h2, h3, h4⟩, ?_⟩
  show bif (left.all fun y => !A.F42.val (cs.getD y.toNat d30) (cs.getD i.toNat d30)) then k _ else k _
  cases e : (left.all fun y => !A.F42.val (cs.getD y.toNat d30) (cs.getD i.toNat d30)) <;> (rw [e] at hk; exact hk)
noncomputable def ts : List Ty := [(.sl T30), (.sl (.int .i64)), (.int .i64)]
noncomputable def G : List AV → PV := pg3 (.sl T30) (.sl (.int .i64)) (.int .i64) (fun calls left i => [left.length ≤ LB, ∀ y ∈ left, 0 ≤ y ∧ y < (calls.length : Int), 0 ≤ i, i < (calls.length : Int)]) (fun calls left i => .v .bool (left.all fun y => !A.F42.val (calls.getD y.toNat d30) (calls.getD i.toNat d30)))
theorem loopsOK : LoopsOK C callF (bodyOf Try.f39) := loopsOK_seek (tbl := loops) (fun _ => rfl) (by kernel_rfl) (List.forall_mem_cons.2 ⟨mkL_ok loop2, fun _ h => nomatch h⟩)
theorem pursOK : ∀ g ts F, C.pur g = some (ts, F) → SoundP Try.prog g F := purOf_ok (l := purs) (List.forall_mem_cons.2 ⟨Go.Proofs.Ytdjdbjcapenjeaa.A.F42.ok, fun _ h => nomatch h⟩)
theorem cfsOK : ∀ g, SoundF Try.prog g (callF g) := fun g => soundF_none g
theorem ok : SoundP Try.prog 39 G := by
  unfold G
  refine soundP_pg3 (soundF_run (C := C) (callF := callF) (tabOK C rfl rfl rfl) cfsOK pursOK Try.func39 (by kernel_rfl) loopsOK) [.bool] fun calls left i h => ?_
  rw [main]
  exact spec calls left i _ h rfl
end F39
namespace F40
abbrev V3 := (List Int) × Int × Nat × Int × (List Int)
noncomputable def st3 (v : V3) : St := ⟨[.v (.sl (.int .i64)) (v.1), .v (.int .i64) (v.2.1), .dead, .dead, .dead, .v .ref (.sl 0 0 (v.2.2.1)), .v (.int .i64) (v.2.2.2.1), .dead, .dead, .dead, .dead, .dead, .dead, .dead, .dead, .dead, .dead, .dead, .dead, .dead, .dead, .dead, .dead, .dead, .dead, .dead, .dead], [.row (.int .i64) (v.2.2.2.2) 3]⟩
noncomputable def dec3 (s : St) : Option V3 := match gV (.sl (.int .i64)) (s.T.getD 0 .dead), gV (.int .i64) (s.T.getD 1 .dead), gV .ref (s.T.getD 5 .dead), gV (.int .i64) (s.T.getD 6 .dead), gRow (.int .i64) s.H[0]? with | some a0, some a1, some a5, some a6, some b0 => some (a0, a1, rN (a5), a6, b0) | _, _, _, _, _ => none
noncomputable def keep3 : List Nat := [0, 1, 5, 6]
noncomputable def body3 : Code := bodyAt (loopsOf (bodyOf Try.f40)) 3
noncomputable def s0 (n5 : Nat) (h0 : (List Int)) : St := ⟨[.dead, .dead, .dead, .dead, .dead, .v .ref (.sl 0 0 n5), .dead, .dead, .dead, .dead, .dead, .dead, .dead, .dead, .dead, .dead, .dead, .dead, .dead, .dead, .dead, .dead, .dead, .dead, .dead, .dead, .dead], [.row (.int .i64) h0 3]⟩
def Q3 : V3 → (Nat → St → Prop) → (St → Prop) → Prop := fun (l, x, n, i, h) X R => 0 ≤ i ∧ i ≤ l.length ∧ l.length ≤ LB ∧ n = h.length ∧ h.length ≤ i.toNat ∧ X 0 (s0 (h ++ (l.drop i.toNat).filter (· != x)).length (h ++ (l.drop i.toNat).filter (· != x)))
noncomputable def purs : List (Nat × (List Ty × (List AV → PV))) := []
noncomputable def callF (g : FuncId) : CF := fun _ _ _ => False
noncomputable def L3 : K → Nat → St → Prop := mkL dec3 st3 0 1 [] Q3
noncomputable def loops : List (Nat × (List Nat × (K → Nat → St → Prop))) := [(3, (keep3, L3))]
noncomputable def C : Ctx := { ti := ti, meth := meth, can := can, pur := purOf purs, loops := fun i => seek loops i, gh := fun _ => [], owns := fun i => seek [(5, ((.int .i64), 3))] i, xk := fun i => seek [(0, ([5], 0))] i, rk := some ([4], 1) }
noncomputable def Round3 (x0 : (List Int)) (x1 : Int) (n5 : Nat) (x6 : Int) (h0 : (List Int)) (N : St → Prop) (X : Nat → St → Prop) (R : St → Prop) : Prop :=
  (bif decide (x6 < (↑x0.length : Int)) then (((0 : Int) ≤ x6) ∧ ((x6 < (↑x0.length : Int)) ∧ (bif x0.getD x6.toNat (0 : Int) != x1 then (((0 : Int) ≤ x6) ∧ ((x6 < (↑x0.length : Int)) ∧ ((n5 ≤ h0.length) ∧ ((n5 + (1 : Nat) ≤ (8796093022208 : Nat)) ∧ (((0 : Nat) + (1 : Nat) ≤ (1 : Nat)) ∧ N (st3 (x0, x1, n5 + (1 : Nat), IntKind.i64.wrap (x6 + (1 : Int)), List.take n5 h0 ++ [x0.getD x6.toNat (0 : Int)]))))))) else N (st3 (x0, x1, n5, IntKind.i64.wrap (x6 + (1 : Int)), h0))))) else X 0 (s0 (n5) (h0)))
theorem round3 (x0 : (List Int)) (x1 : Int) (n5 : Nat) (x6 : Int) (h0 : (List Int)) (N : St → Prop) (X : Nat → St → Prop) (R : St → Prop) : exec C callF body3 ⟨0, [1], fun s' => cond (Nat.ble 1 s'.H.length) (N (scrub keep3 1 s')) False, X, R⟩ (st3 (x0, x1, n5, x6, h0)) = Round3 x0 x1 n5 x6 h0 N X R := by kernel_rfl
noncomputable def Main (l : (List Int)) (x : Int) (k : AV → Prop) : Prop :=
  (st3 (l, x, (0 : Nat), (0 : Int), []) = st3 (l, x, (0 : Nat), (0 : Int), []) ∧ (((0 : Int) ≤ (0 : Int)) ∧ (((0 : Int) ≤ (↑l.length : Int)) ∧ ((l.length ≤ LB) ∧ (((0 : Nat) = (0 : Nat)) ∧ (((0 : Nat) ≤ Int.toNat (0 : Int)) ∧ (((0 : Nat) + ([] ++ List.filter (fun (x_1 : Int) => x_1 != x) l).length ≤ ([] ++ List.filter (fun (x_1 : Int) => x_1 != x) l).length) ∧ k (.v (.sl (.int .i64)) (List.take ([] ++ List.filter (fun (x_1 : Int) => x_1 != x) l).length ([] ++ List.filter (fun (x_1 : Int) => x_1 != x) l))))))))))
theorem main (l : (List Int)) (x : Int) (k : AV → Prop) : (runFn C callF Try.f40 [.v (.sl (.int .i64)) l, .v (.int .i64) x] [] (fun r H => coRes H [(.sl (.int .i64))] r k)) = Main l x k := by kernel_rfl
theorem loop3 (v : V3) (X : Nat → St → Prop) (R : St → Prop) : Q3 v X R → ∃ m, loopN C callF keep3 1 body3 ⟨0, [], fun _ => False, X, R⟩ m (st3 v) := by
  refine loop_ind (fun v => Q3 v X R) (fun (l, x, n, i, h) => l.length - i.toNat) ?_ v
  rintro ⟨l, x, n, i, h⟩ ⟨h0, h1, h2, rfl, h3, h4⟩ N hN
  rw [round3]
  obtain ⟨j, rfl⟩ : ∃ a : Nat, i = a := ⟨i.toNat, by omega⟩
  dsimp only at hN
  rw [Int.toNat_natCast] at h4 h3
  have h2' : l.length ≤ 1073741824 := h2
  refine bif_d (fun hj => ⟨by omega, hj, ?_⟩) (fun hj => ?_)
  · have hn : j < l.length := by omega
    rw [drop_cons hn 0, List.filter_cons] at h4
    rw [Int.toNat_natCast, w64n (by omega)]
    refine bif_ne (fun e => ?_) (fun e => ?_)
    · rw [show (l.getD j 0 != x) = true by simpa using e, if_pos rfl] at h4
      refine ⟨by omega, by omega, Nat.le_refl _, by omega, by decide, ?_⟩
      rw [List.take_length]
      exact hN (l, x, h.length + 1, ((j + 1 : Nat) : Int), h ++ [l.getD j 0]) ⟨by omega, by omega, h2, by simp, by rw [Int.toNat_natCast, List.length_append, List.length_singleton]; omega, by rw [Int.toNat_natCast, List.append_assoc]; exact h4⟩ (by dsimp only; omega)
    · rw [show (l.getD j 0 != x) = false by rw [e]; simp, if_neg (by decide)] at h4
      exact hN (l, x, h.length, ((j + 1 : Nat) : Int), h) ⟨by omega, by omega, h2, rfl, by rw [Int.toNat_natCast]; omega, by rw [Int.toNat_natCast]; exact h4⟩ (by dsimp only; omega)
  · rw [List.drop_eq_nil_of_le (by omega), List.filter_nil, List.append_nil] at h4
    exact h4
theorem spec (l : List Int) (x : Int) (k : AV → Prop) (h : AllP [l.length ≤ LB]) (hk : k (.v (.sl (.int .i64)) (l.filter (· != x)))) : Main l x k := by
  refine ⟨rfl, by omega, by omega, h.1, rfl, Nat.le_refl _, by simp, ?_⟩
  simpa using hk
noncomputable def ts : List Ty := [(.sl (.int .i64)), (.int .i64)]
noncomputable def G : List AV → PV := pg2 (.sl (.int .i64)) (.int .i64) (fun l x => [l.length ≤ LB]) (fun l x => .v (.sl (.int .i64)) (l.filter (· != x)))
theorem loopsOK : LoopsOK C callF (bodyOf Try.f40) := loopsOK_seek (tbl := loops) (fun _ => rfl) (by kernel_rfl) (List.forall_mem_cons.2 ⟨mkL_ok loop3, fun _ h => nomatch h⟩)
theorem pursOK : ∀ g ts F, C.pur g = some (ts, F) → SoundP Try.prog g F := purOf_ok (l := purs) (fun _ h => nomatch h)
theorem cfsOK : ∀ g, SoundF Try.prog g (callF g) := fun g => soundF_none g
theorem ok : SoundP Try.prog 40 G := by
  unfold G
  refine soundP_pg2 (soundF_run (C := C) (callF := callF) (tabOK C rfl rfl rfl) cfsOK pursOK Try.func40 (by kernel_rfl) loopsOK) [(.sl (.int .i64))] fun l x h => ?_
  rw [main]
  exact spec l x _ h rfl
end F40
namespace F37
abbrev V2 := (List D30) × (List (List Int)) × Int
noncomputable def st2 (v : V2) : St := ⟨[.v (.sl T30) (v.1), .v (.sl (.sl (.int .i64))) (v.2.1), .dead, .dead, .dead, .v (.int .i64) (v.2.2), .dead, .dead, .dead, .dead, .dead, .dead, .dead, .dead, .dead, .dead, .dead, .dead, .dead, .dead, .dead, .dead, .dead, .dead, .dead, .dead, .dead, .dead, .dead, .dead, .dead, .dead, .dead, .dead, .dead, .dead, .dead, .dead, .dead, .dead, .dead, .dead, .dead, .dead, .dead, .dead, .dead, .dead, .dead, .dead, .dead, .dead, .dead, .dead, .dead, .dead, .dead, .dead, .dead, .dead, .dead, .dead, .dead, .dead, .dead, .dead, .dead, .dead, .dead, .dead, .dead, .dead, .dead, .dead, .dead], []⟩
noncomputable def dec2 (s : St) : Option V2 := match gV (.sl T30) (s.T.getD 0 .dead), gV (.sl (.sl (.int .i64))) (s.T.getD 1 .dead), gV (.int .i64) (s.T.getD 5 .dead) with | some a0, some a1, some a5 => some (a0, a1, a5) | _, _, _ => none
noncomputable def keep2 : List Nat := [0, 1, 5]
noncomputable def body2 : Code := bodyAt (loopsOf (bodyOf Try.f37)) 2
abbrev V5 := (List D30) × (List (List Int)) × Int × Int
noncomputable def st5 (v : V5) : St := ⟨[.v (.sl T30) (v.1), .v (.sl (.sl (.int .i64))) (v.2.1), .dead, .dead, .dead, .v (.int .i64) (v.2.2.1), .v (.int .i64) (v.2.2.2), .dead, .dead, .dead, .dead, .dead, .dead, .dead, .dead, .dead, .dead, .dead, .dead, .dead, .dead, .dead, .dead, .dead, .dead, .dead, .dead, .dead, .dead, .dead, .dead, .dead, .dead, .dead, .dead, .dead, .dead, .dead, .dead, .dead, .dead, .dead, .dead, .dead, .dead, .dead, .dead, .dead, .dead, .dead, .dead, .dead, .dead, .dead, .dead, .dead, .dead, .dead, .dead, .dead, .dead, .dead, .dead, .dead, .dead, .dead, .dead, .dead, .dead, .dead, .dead, .dead, .dead, .dead, .dead], []⟩
noncomputable def dec5 (s : St) : Option V5 := match gV (.sl T30) (s.T.getD 0 .dead), gV (.sl (.sl (.int .i64))) (s.T.getD 1 .dead), gV (.int .i64) (s.T.getD 5 .dead), gV (.int .i64) (s.T.getD 6 .dead) with | some a0, some a1, some a5, some a6 => some (a0, a1, a5, a6) | _, _, _, _ => none
noncomputable def keep5 : List Nat := [0, 1, 5, 6]
noncomputable def body5 : Code := bodyAt (loopsOf (bodyOf Try.f37)) 5
abbrev V11 := (List D30) × (List (List Int)) × Int × Int × Int × Int
noncomputable def st11 (v : V11) : St := ⟨[.v (.sl T30) (v.1), .v (.sl (.sl (.int .i64))) (v.2.1), .dead, .dead, .dead, .v (.int .i64) (v.2.2.1), .v (.int .i64) (v.2.2.2.1), .v (.int .u64) (v.2.2.2.2.1), .v (.int .i64) (v.2.2.2.2.2), .dead, .dead, .dead, .dead, .dead, .dead, .dead, .dead, .dead, .dead, .dead, .dead, .dead, .dead, .dead, .dead, .dead, .dead, .dead, .dead, .dead, .dead, .dead, .dead, .dead, .dead, .dead, .dead, .dead, .dead, .dead, .dead, .dead, .dead, .dead, .dead, .dead, .dead, .dead, .dead, .dead, .dead, .dead, .dead, .dead, .dead, .dead, .dead, .dead, .dead, .dead, .dead, .dead, .dead, .dead, .dead, .dead, .dead, .dead, .dead, .dead, .dead, .dead, .dead, .dead, .dead], []⟩
noncomputable def dec11 (s : St) : Option V11 := match gV (.sl T30) (s.T.getD 0 .dead), gV (.sl (.sl (.int .i64))) (s.T.getD 1 .dead), gV (.int .i64) (s.T.getD 5 .dead), gV (.int .i64) (s.T.getD 6 .dead), gV (.int .u64) (s.T.getD 7 .dead), gV (.int .i64) (s.T.getD 8 .dead) with | some a0, some a1, some a5, some a6, some a7, some a8 => some (a0, a1, a5, a6, a7, a8) | _, _, _, _, _, _ => none
noncomputable def keep11 : List Nat := [0, 1, 5, 6, 7, 8]
noncomputable def body11 : Code := bodyAt (loopsOf (bodyOf Try.f37)) 11
noncomputable def s0 : St := ⟨[.dead, .dead, .dead, .dead, .dead, .dead, .dead, .dead, .dead, .dead, .dead, .dead, .dead, .dead, .dead, .dead, .dead, .dead, .dead, .dead, .dead, .dead, .dead, .dead, .dead, .dead, .dead, .dead, .dead, .dead, .dead, .dead, .dead, .dead, .dead, .dead, .dead, .dead, .dead, .dead, .dead, .dead, .dead, .dead, .dead, .dead, .dead, .dead, .dead, .dead, .dead, .dead, .dead, .dead, .dead, .dead, .dead, .dead, .dead, .dead, .dead, .dead, .dead, .dead, .dead, .dead, .dead, .dead, .dead, .dead, .dead, .dead, .dead, .dead, .dead], []⟩
noncomputable def s1 (x4 : Bool) : St := ⟨[.dead, .dead, .dead, .dead, .v .bool x4, .dead, .dead, .dead, .dead, .dead, .dead, .dead, .dead, .dead, .dead, .dead, .dead, .dead, .dead, .dead, .dead, .dead, .dead, .dead, .dead, .dead, .dead, .dead, .dead, .dead, .dead, .dead, .dead, .dead, .dead, .dead, .dead, .dead, .dead, .dead, .dead, .dead, .dead, .dead, .dead, .dead, .dead, .dead, .dead, .dead, .dead, .dead, .dead, .dead, .dead, .dead, .dead, .dead, .dead, .dead, .dead, .dead, .dead, .dead, .dead, .dead, .dead, .dead, .dead, .dead, .dead, .dead, .dead, .dead, .dead], []⟩
noncomputable def s2 (x0 : (List D30)) (x1 : (List (List Int))) (x5 : Int) : St := ⟨[.v (.sl T30) x0, .v (.sl (.sl (.int .i64))) x1, .dead, .dead, .dead, .v (.int .i64) x5, .dead, .dead, .dead, .dead, .dead, .dead, .dead, .dead, .dead, .dead, .dead, .dead, .dead, .dead, .dead, .dead, .dead, .dead, .dead, .dead, .dead, .dead, .dead, .dead, .dead, .dead, .dead, .dead, .dead, .dead, .dead, .dead, .dead, .dead, .dead, .dead, .dead, .dead, .dead, .dead, .dead, .dead, .dead, .dead, .dead, .dead, .dead, .dead, .dead, .dead, .dead, .dead, .dead, .dead, .dead, .dead, .dead, .dead, .dead, .dead, .dead, .dead, .dead, .dead, .dead, .dead, .dead, .dead, .dead], []⟩
noncomputable def s3 (x0 : (List D30)) (x1 : (List (List Int))) (x5 : Int) (x6 : Int) : St := ⟨[.v (.sl T30) x0, .v (.sl (.sl (.int .i64))) x1, .dead, .dead, .dead, .v (.int .i64) x5, .v (.int .i64) x6, .dead, .dead, .dead, .dead, .dead, .dead, .dead, .dead, .dead, .dead, .dead, .dead, .dead, .dead, .dead, .dead, .dead, .dead, .dead, .dead, .dead, .dead, .dead, .dead, .dead, .dead, .dead, .dead, .dead, .dead, .dead, .dead, .dead, .dead, .dead, .dead, .dead, .dead, .dead, .dead, .dead, .dead, .dead, .dead, .dead, .dead, .dead, .dead, .dead, .dead, .dead, .dead, .dead, .dead, .dead, .dead, .dead, .dead, .dead, .dead, .dead, .dead, .dead, .dead, .dead, .dead, .dead, .dead], []⟩
/-- No order ahead is of that key. -/
def noK (cs : List D30) (orders : List (List Int)) (k : Int) (h : Nat) : Bool := !(decide (0 < (orders.getD h []).length) && (ky cs ((orders.getD h []).getD 0 0) == k))
def apE (cs : List D30) (orders : List (List Int)) (i j : Nat) : Bool := !(ky cs ((orders.getD i []).getD j 0) != ky cs ((orders.getD i []).getD 0 0)) && (List.range' 0 i).all (noK cs orders (ky cs ((orders.getD i []).getD j 0)))
def apO (cs : List D30) (orders : List (List Int)) (i : Nat) : Bool := (List.range' 0 (orders.getD i []).length).all (apE cs orders i)
def OR (cs : List D30) (orders : List (List Int)) : Prop := ∀ o ∈ orders, o.length ≤ LB ∧ ∀ y ∈ o, 0 ≤ y ∧ y < (cs.length : Int)
def Q11 : V11 → (Nat → St → Prop) → (St → Prop) → Prop := fun (cs, orders, i, j, k, h) X R => 0 ≤ h ∧ h ≤ i ∧ i ≤ orders.length ∧ orders.length ≤ LB ∧ OR cs orders ∧
  bif (List.range' h.toNat (i.toNat - h.toNat)).all (noK cs orders k) then X 4 (s3 cs orders i j) else R (s1 false)
def Q5 : V5 → (Nat → St → Prop) → (St → Prop) → Prop := fun (cs, orders, i, j) X R => 0 ≤ i ∧ i < orders.length ∧ orders.length ≤ LB ∧ OR cs orders ∧ 0 ≤ j ∧ j ≤ (orders.getD i.toNat []).length ∧
  bif (List.range' j.toNat ((orders.getD i.toNat []).length - j.toNat)).all (apE cs orders i.toNat) then X 2 (s2 cs orders i) else R (s1 false)
def Q2 : V2 → (Nat → St → Prop) → (St → Prop) → Prop := fun (cs, orders, i) X R => 0 ≤ i ∧ i ≤ orders.length ∧ orders.length ≤ LB ∧ OR cs orders ∧
  bif (List.range' i.toNat (orders.length - i.toNat)).all (apO cs orders) then X 0 s0 else R (s1 false)
noncomputable def purs : List (Nat × (List Ty × (List AV → PV))) := []
noncomputable def callF (g : FuncId) : CF := fun _ _ _ => False
noncomputable def L2 : K → Nat → St → Prop := mkL dec2 st2 0 0 [] Q2
noncomputable def L5 : K → Nat → St → Prop := mkL dec5 st5 0 0 [0] Q5
noncomputable def L11 : K → Nat → St → Prop := mkL dec11 st11 0 0 [0, 0] Q11
noncomputable def loops : List (Nat × (List Nat × (K → Nat → St → Prop))) := [(2, (keep2, L2)), (5, (keep5, L5)), (11, (keep11, L11))]
noncomputable def C : Ctx := { ti := ti, meth := meth, can := can, pur := purOf purs, loops := fun i => seek loops i, gh := fun _ => [], xk := fun i => seek [(0, ([], 0)), (2, ([0, 1, 5], 0)), (4, ([0, 1, 5, 6], 0))] i, rk := some ([4], 0) }
noncomputable def Round2 (x0 : (List D30)) (x1 : (List (List Int))) (x5 : Int) (N : St → Prop) (X : Nat → St → Prop) (R : St → Prop) : Prop :=
  (bif decide (x5 < (↑x1.length : Int)) then (st5 (x0, x1, x5, (0 : Int)) = st5 (x0, x1, x5, (0 : Int)) ∧ (((0 : Int) ≤ x5) ∧ ((x5 < (↑x1.length : Int)) ∧ ((x1.length ≤ LB) ∧ ((OR x0 x1) ∧ (((0 : Int) ≤ (0 : Int)) ∧ (((0 : Int) ≤ (↑(x1.getD x5.toNat []).length : Int)) ∧ (bif (List.range' (Int.toNat (0 : Int)) ((x1.getD x5.toNat []).length - Int.toNat (0 : Int))).all (apE x0 x1 x5.toNat) then N (st2 (x0, x1, IntKind.i64.wrap (x5 + (1 : Int)))) else R (s1 (false)))))))))) else X 0 (s0))
theorem round2 (x0 : (List D30)) (x1 : (List (List Int))) (x5 : Int) (N : St → Prop) (X : Nat → St → Prop) (R : St → Prop) : exec C callF body2 ⟨0, [0], fun s' => cond (Nat.ble 0 s'.H.length) (N (scrub keep2 0 s')) False, X, R⟩ (st2 (x0, x1, x5)) = Round2 x0 x1 x5 N X R := by kernel_rfl
noncomputable def Round5 (x0 : (List D30)) (x1 : (List (List Int))) (x5 : Int) (x6 : Int) (N : St → Prop) (X : Nat → St → Prop) (R : St → Prop) : Prop :=
  (((0 : Int) ≤ x5) ∧ ((x5 < (↑x1.length : Int)) ∧ (bif decide (x6 < (↑(List.length (x1.getD x5.toNat [])) : Int)) then (((0 : Int) ≤ x5) ∧ ((x5 < (↑x1.length : Int)) ∧ (((0 : Int) ≤ x6) ∧ ((x6 < (↑(List.length (x1.getD x5.toNat [])) : Int)) ∧ (((0 : Int) ≤ List.getD (x1.getD x5.toNat []) x6.toNat (0 : Int)) ∧ ((List.getD (x1.getD x5.toNat []) x6.toNat (0 : Int) < (↑x0.length : Int)) ∧ (((0 : Int) ≤ x5) ∧ ((x5 < (↑x1.length : Int)) ∧ (((0 : Int) ≤ (0 : Int)) ∧ (((0 : Int) < (↑(List.length (x1.getD x5.toNat [])) : Int)) ∧ (((0 : Int) ≤ List.getD (x1.getD x5.toNat []) (Int.toNat (0 : Int)) (0 : Int)) ∧ ((List.getD (x1.getD x5.toNat []) (Int.toNat (0 : Int)) (0 : Int) < (↑x0.length : Int)) ∧ (bif (x0.getD (Int.toNat (List.getD (x1.getD x5.toNat []) x6.toNat (0 : Int))) d30).snd.snd.fst.snd.fst != (x0.getD (Int.toNat (List.getD (x1.getD x5.toNat []) (Int.toNat (0 : Int)) (0 : Int))) d30).snd.snd.fst.snd.fst then R (s1 (false)) else (st11 (x0, x1, x5, x6, (x0.getD (Int.toNat (List.getD (x1.getD x5.toNat []) x6.toNat (0 : Int))) d30).snd.snd.fst.snd.fst, (0 : Int)) = st11 (x0, x1, x5, x6, (x0.getD (Int.toNat (List.getD (x1.getD x5.toNat []) x6.toNat (0 : Int))) d30).snd.snd.fst.snd.fst, (0 : Int)) ∧ (((0 : Int) ≤ (0 : Int)) ∧ (((0 : Int) ≤ x5) ∧ ((x5 ≤ (↑x1.length : Int)) ∧ ((x1.length ≤ LB) ∧ ((OR x0 x1) ∧ (bif (List.range' (Int.toNat (0 : Int)) (x5.toNat - Int.toNat (0 : Int))).all (noK x0 x1 (x0.getD (Int.toNat (List.getD (x1.getD x5.toNat []) x6.toNat (0 : Int))) d30).snd.snd.fst.snd.fst) then N (st5 (x0, x1, x5, IntKind.i64.wrap (x6 + (1 : Int)))) else R (s1 (false)))))))))))))))))))))) else X 2 (s2 (x0) (x1) (x5)))))
theorem round5 (x0 : (List D30)) (x1 : (List (List Int))) (x5 : Int) (x6 : Int) (N : St → Prop) (X : Nat → St → Prop) (R : St → Prop) : exec C callF body5 ⟨0, [0, 0], fun s' => cond (Nat.ble 0 s'.H.length) (N (scrub keep5 0 s')) False, X, R⟩ (st5 (x0, x1, x5, x6)) = Round5 x0 x1 x5 x6 N X R := by kernel_rfl
noncomputable def Round11 (x0 : (List D30)) (x1 : (List (List Int))) (x5 : Int) (x6 : Int) (x7 : Int) (x8 : Int) (N : St → Prop) (X : Nat → St → Prop) (R : St → Prop) : Prop :=
  (bif decide (x8 < x5) then (((0 : Int) ≤ x8) ∧ ((x8 < (↑x1.length : Int)) ∧ (bif decide ((↑(List.length (x1.getD x8.toNat [])) : Int) > (0 : Int)) then (((0 : Int) ≤ x8) ∧ ((x8 < (↑x1.length : Int)) ∧ (((0 : Int) ≤ (0 : Int)) ∧ (((0 : Int) < (↑(List.length (x1.getD x8.toNat [])) : Int)) ∧ (((0 : Int) ≤ List.getD (x1.getD x8.toNat []) (Int.toNat (0 : Int)) (0 : Int)) ∧ ((List.getD (x1.getD x8.toNat []) (Int.toNat (0 : Int)) (0 : Int) < (↑x0.length : Int)) ∧ (bif (x0.getD (Int.toNat (List.getD (x1.getD x8.toNat []) (Int.toNat (0 : Int)) (0 : Int))) d30).snd.snd.fst.snd.fst == x7 then R (s1 (false)) else N (st11 (x0, x1, x5, x6, x7, IntKind.i64.wrap (x8 + (1 : Int))))))))))) else N (st11 (x0, x1, x5, x6, x7, IntKind.i64.wrap (x8 + (1 : Int))))))) else X 4 (s3 (x0) (x1) (x5) (x6)))
theorem round11 (x0 : (List D30)) (x1 : (List (List Int))) (x5 : Int) (x6 : Int) (x7 : Int) (x8 : Int) (N : St → Prop) (X : Nat → St → Prop) (R : St → Prop) : exec C callF body11 ⟨0, [0, 0, 0], fun s' => cond (Nat.ble 0 s'.H.length) (N (scrub keep11 0 s')) False, X, R⟩ (st11 (x0, x1, x5, x6, x7, x8)) = Round11 x0 x1 x5 x6 x7 x8 N X R := by kernel_rfl
noncomputable def Main (calls : (List D30)) (orders : (List (List Int))) (k : AV → Prop) : Prop :=
  (st2 (calls, orders, (0 : Int)) = st2 (calls, orders, (0 : Int)) ∧ (((0 : Int) ≤ (0 : Int)) ∧ (((0 : Int) ≤ (↑orders.length : Int)) ∧ ((orders.length ≤ LB) ∧ ((OR calls orders) ∧ (bif (List.range' (Int.toNat (0 : Int)) (orders.length - Int.toNat (0 : Int))).all (apO calls orders) then k (.v .bool (true)) else k (.v .bool (false))))))))
theorem main (calls : (List D30)) (orders : (List (List Int))) (k : AV → Prop) : (runFn C callF Try.f37 [.v (.sl (.pair (.int .u8) (.pair (.int .u64) (.pair (.pair (.int .u8) (.pair (.int .u64) (.pair (.int .u64) (.pair (.sl (.int .u8)) (.pair (.sl (.int .u8)) (.pair .bool (.pair (.int .u8) .unit))))))) (.pair (.int .u8) (.pair (.sl (.int .u8)) (.pair (.int .i64) (.pair (.int .i64) .unit)))))))) calls, .v (.sl (.sl (.int .i64))) orders] [] (fun r H => coRes H [.bool] r k)) = Main calls orders k := by kernel_rfl
theorem loop11 (v : V11) (X : Nat → St → Prop) (R : St → Prop) : Q11 v X R → ∃ m, loopN C callF keep11 0 body11 ⟨0, [0, 0], fun _ => False, X, R⟩ m (st11 v) := by
  refine loop_ind (fun v => Q11 v X R) (fun (cs, orders, i, j, k, h) => i.toNat - h.toNat) ?_ v
  rintro ⟨cs, orders, i, j, k, h⟩ ⟨h0, h1, h2, h3, hO, h4⟩ N hN
  rw [round11]
  obtain ⟨i, rfl⟩ : ∃ a : Nat, i = a := ⟨i.toNat, by omega⟩
  obtain ⟨h, rfl⟩ : ∃ a : Nat, h = a := ⟨h.toNat, by omega⟩
  dsimp only at hN
  rw [Int.toNat_natCast, Int.toNat_natCast] at h4
  have h3' : orders.length ≤ 1073741824 := h3
  refine bif_d (fun hj => ?_) (fun hj => ?_)
  · rw [F36.range_cons (by omega), List.all_cons] at h4
    rw [Int.toNat_natCast, w64n (by omega)]
    have good : noK cs orders k h = true → N (st11 (cs, orders, (i : Int), j, k, ((h + 1 : Nat) : Int))) := fun x => by
      rw [x, Bool.true_and] at h4
      exact hN (cs, orders, (i : Int), j, k, ((h + 1 : Nat) : Int)) ⟨by omega, by omega, h2, h3, hO, by rw [Int.toNat_natCast, Int.toNat_natCast]; exact h4⟩ (by dsimp only; omega)
    obtain ⟨g1, g2⟩ := hO _ (C.F9.getD_mem (show h < orders.length by omega) [])
    refine ⟨by omega, by omega, bif_d (fun x => ?_) (fun x => good ?_)⟩
    · obtain ⟨y1, y2⟩ := g2 _ (C.F9.getD_mem (show 0 < (orders.getD h []).length by omega) 0)
      refine ⟨by omega, by omega, by omega, by omega, y1, y2, bif_i (fun z => ?_) (fun z => good ?_)⟩
      · have e : noK cs orders k h = false := by
          unfold noK
          rw [decide_eq_true (show 0 < (orders.getD h []).length by omega), show (ky cs ((orders.getD h []).getD 0 0) == k) = true from z]; rfl
        rw [e, Bool.false_and, cond_false] at h4
        exact h4
      · unfold noK
        rw [show (ky cs ((orders.getD h []).getD 0 0) == k) = false from z, Bool.and_false]; rfl
    · unfold noK
      rw [decide_eq_false (show ¬ 0 < (orders.getD h []).length by omega)]; rfl
  · rw [show i - h = 0 by omega] at h4
    exact h4
theorem loop5 (v : V5) (X : Nat → St → Prop) (R : St → Prop) : Q5 v X R → ∃ m, loopN C callF keep5 0 body5 ⟨0, [0], fun _ => False, X, R⟩ m (st5 v) := by
  refine loop_ind (fun v => Q5 v X R) (fun (cs, orders, i, j) => (orders.getD i.toNat []).length - j.toNat) ?_ v
  rintro ⟨cs, orders, i, j⟩ ⟨h0, h1, h2, hO, h5, h6, h4⟩ N hN
  rw [round5]
  obtain ⟨i, rfl⟩ : ∃ a : Nat, i = a := ⟨i.toNat, by omega⟩
  obtain ⟨j, rfl⟩ : ∃ a : Nat, j = a := ⟨j.toNat, by omega⟩
  dsimp only at hN
  rw [Int.toNat_natCast] at h6
  rw [Int.toNat_natCast, Int.toNat_natCast] at h4
  have h2' : orders.length ≤ 1073741824 := h2
  obtain ⟨g1, g2⟩ := hO _ (C.F9.getD_mem (show i < orders.length by omega) [])
  have g1' : (orders.getD i []).length ≤ 1073741824 := g1
  unfold Round5
  rw [Int.toNat_natCast, Int.toNat_natCast]
  refine ⟨by omega, by omega, bif_d (fun hj => ?_) (fun hj => ?_)⟩
  · rw [F36.range_cons (by omega), List.all_cons] at h4
    obtain ⟨y1, y2⟩ := g2 _ (C.F9.getD_mem (show j < (orders.getD i []).length by omega) 0)
    obtain ⟨z1, z2⟩ := g2 _ (C.F9.getD_mem (show 0 < (orders.getD i []).length by omega) 0)
    rw [w64n (by omega)]
    refine ⟨by omega, by omega, by omega, by omega, y1, y2, by omega, by omega, by omega, by omega, z1, z2, bif_i (fun x => ?_) (fun x => ⟨rfl, by omega, by omega, by omega, h2, hO, ?_⟩)⟩
    · have e : apE cs orders i j = false := by
        unfold apE
        rw [show (ky cs ((orders.getD i []).getD j 0) != ky cs ((orders.getD i []).getD 0 0)) = true from x]; rfl
      rw [e, Bool.false_and, cond_false] at h4
      exact h4
    · have e : apE cs orders i j = (List.range' 0 i).all (noK cs orders (ky cs ((orders.getD i []).getD j 0))) := by
        unfold apE
        rw [show (ky cs ((orders.getD i []).getD j 0) != ky cs ((orders.getD i []).getD 0 0)) = false from x]; rfl
      rw [e] at h4
      show bif (List.range' 0 i).all (noK cs orders (ky cs ((orders.getD i []).getD j 0))) then _ else _
      refine bif_i (fun y => ?_) (fun y => ?_)
      · rw [y, Bool.true_and] at h4
        exact hN (cs, orders, (i : Int), ((j + 1 : Nat) : Int)) ⟨by omega, by omega, h2, hO, by omega, by rw [Int.toNat_natCast]; omega, by rw [Int.toNat_natCast, Int.toNat_natCast]; exact h4⟩ (by dsimp only; rw [Int.toNat_natCast, Int.toNat_natCast]; omega)
      · rw [y, Bool.false_and, cond_false] at h4
        exact h4
  · rw [show (orders.getD i []).length - j = 0 by omega] at h4
    exact h4
theorem loop2 (v : V2) (X : Nat → St → Prop) (R : St → Prop) : Q2 v X R → ∃ m, loopN C callF keep2 0 body2 ⟨0, [], fun _ => False, X, R⟩ m (st2 v) := by
  refine loop_ind (fun v => Q2 v X R) (fun (cs, orders, i) => orders.length - i.toNat) ?_ v
  rintro ⟨cs, orders, i⟩ ⟨h0, h1, h2, hO, h4⟩ N hN
  rw [round2]
  obtain ⟨i, rfl⟩ : ∃ a : Nat, i = a := ⟨i.toNat, by omega⟩
  dsimp only at hN
  rw [Int.toNat_natCast] at h4
  have h2' : orders.length ≤ 1073741824 := h2
  refine bif_d (fun hj => ?_) (fun hj => ?_)
  · rw [F36.range_cons (by omega), List.all_cons] at h4
    rw [Int.toNat_natCast, w64n (by omega)]
    refine ⟨rfl, by omega, by omega, h2, hO, by omega, by omega, ?_⟩
    show bif apO cs orders i then _ else _
    refine bif_i (fun y => ?_) (fun y => ?_)
    · rw [y, Bool.true_and] at h4
      exact hN (cs, orders, ((i + 1 : Nat) : Int)) ⟨by omega, by omega, h2, hO, by rw [Int.toNat_natCast]; exact h4⟩ (by dsimp only; omega)
    · rw [y, Bool.false_and, cond_false] at h4
      exact h4
  · rw [show orders.length - i = 0 by omega] at h4
    exact h4
theorem spec (cs : List D30) (orders : List (List Int)) (k : AV → Prop) (h : AllP [orders.length ≤ LB, OR cs orders]) (hk : k (.v .bool ((List.range' 0 orders.length).all (apO cs orders)))) : Main cs orders k := by
  refine ⟨rfl, by omega, by omega, h.1, h.2.1, ?_⟩
  show bif (List.range' 0 orders.length).all (apO cs orders) then k _ else k _
  cases e : (List.range' 0 orders.length).all (apO cs orders) <;> (rw [e] at hk; exact hk)
noncomputable def ts : List Ty := [(.sl T30), (.sl (.sl (.int .i64)))]
noncomputable def G : List AV → PV := pg2 (.sl T30) (.sl (.sl (.int .i64))) (fun calls orders => [orders.length ≤ LB, OR calls orders]) (fun calls orders => .v .bool ((List.range' 0 orders.length).all (apO calls orders)))
theorem loopsOK : LoopsOK C callF (bodyOf Try.f37) := loopsOK_seek (tbl := loops) (fun _ => rfl) (by kernel_rfl) (List.forall_mem_cons.2 ⟨mkL_ok loop2, List.forall_mem_cons.2 ⟨mkL_ok loop5, List.forall_mem_cons.2 ⟨mkL_ok loop11, fun _ h => nomatch h⟩⟩⟩)
theorem pursOK : ∀ g ts F, C.pur g = some (ts, F) → SoundP Try.prog g F := purOf_ok (l := purs) (fun _ h => nomatch h)
theorem cfsOK : ∀ g, SoundF Try.prog g (callF g) := fun g => soundF_none g
theorem ok : SoundP Try.prog 37 G := by
  unfold G
  refine soundP_pg2 (soundF_run (C := C) (callF := callF) (tabOK C rfl rfl rfl) cfsOK pursOK Try.func37 (by kernel_rfl) loopsOK) [.bool] fun calls orders h => ?_
  rw [main]
  exact spec calls orders _ h rfl
end F37

end Go.Proofs.Ytdjdbjcapenjeaa.Q
