/- the law LinearMerges -/
import Derived.Test.YtdjdbjcapenjeaaDxTab
import Derived.Test.YtdjdbjcapenjeaaDx3
import Derived.Test.YtdjdbjcapenjeaaDxTy
import Derived.Test.YtdjdbjcapenjeaaPMerge
import Derived.Test.YtdjdbjcapenjeaaC
import Derived.Test.YtdjdbjcapenjeaaO
import Derived.Test.YtdjdbjcapenjeaaR
import Derived.Test.YtdjdbjcapenjeaaA
import Derived.Test.YtdjdbjcapenjeaaB
set_option linter.unusedVariables false
set_option maxRecDepth 100000
open Go Go.Proofs Go.Proofs.Ytdjdbjcapenjeaa.Dx Go.Proofs.Ytdjdbjcapenjeaa.Dx.TYtdjdbjcapenjeaa
namespace Go.Proofs.Ytdjdbjcapenjeaa.LM
namespace F4
abbrev V6 := (List D30) × (List (List Int)) × Nat × Int × Int × (List (List Int))
noncomputable def st6 (v : V6) : St := ⟨[.v (.sl T30) (v.1), .v (.sl (.sl (.int .i64))) (v.2.1), .dead, .dead, .dead, .v .ref (.sl 0 0 (v.2.2.1)), .v (.int .i64) (v.2.2.2.1), .v (.int .i64) (v.2.2.2.2.1), .dead, .dead, .dead, .dead, .dead, .dead, .dead, .dead, .dead, .dead, .dead, .dead, .dead, .dead, .dead, .dead, .dead, .dead, .dead, .dead, .dead, .dead, .dead, .dead, .dead, .dead, .dead, .dead, .dead, .dead, .dead, .dead, .dead, .dead, .dead, .dead, .dead, .dead, .dead, .dead, .dead, .dead, .dead, .dead, .dead, .dead, .dead, .dead, .dead, .dead, .dead, .dead, .dead, .dead, .dead, .dead, .dead, .dead, .dead, .dead, .dead, .dead, .dead, .dead, .dead, .dead, .dead, .dead, .dead, .dead, .dead, .dead, .dead, .dead, .dead, .dead, .dead, .dead, .dead, .dead, .dead, .dead, .dead, .dead, .dead, .dead, .dead, .dead, .dead, .dead, .dead, .dead, .dead, .dead, .dead, .dead, .dead, .dead], [.row (.sl (.int .i64)) (v.2.2.2.2.2) 40]⟩
noncomputable def dec6 (s : St) : Option V6 := match gV (.sl T30) (s.T.getD 0 .dead), gV (.sl (.sl (.int .i64))) (s.T.getD 1 .dead), gV .ref (s.T.getD 5 .dead), gV (.int .i64) (s.T.getD 6 .dead), gV (.int .i64) (s.T.getD 7 .dead), gRow (.sl (.int .i64)) s.H[0]? with | some a0, some a1, some a5, some a6, some a7, some b0 => some (a0, a1, rN (a5), a6, a7, b0) | _, _, _, _, _, _ => none
noncomputable def keep6 : List Nat := [0, 1, 5, 6, 7]
noncomputable def body6 : Code := bodyAt (loopsOf (bodyOf Try.f4)) 6
abbrev V18 := (List (List Int)) × (List (List Int)) × Int
noncomputable def st18 (v : V18) : St := ⟨[.dead, .v (.sl (.sl (.int .i64))) (v.1), .dead, .dead, .dead, .v (.sl (.sl (.int .i64))) (v.2.1), .dead, .dead, .dead, .dead, .dead, .dead, .dead, .v (.int .i64) (v.2.2), .dead, .dead, .dead, .dead, .dead, .dead, .dead, .dead, .dead, .dead, .dead, .dead, .dead, .dead, .dead, .dead, .dead, .dead, .dead, .dead, .dead, .dead, .dead, .dead, .dead, .dead, .dead, .dead, .dead, .dead, .dead, .dead, .dead, .dead, .dead, .dead, .dead, .dead, .dead, .dead, .dead, .dead, .dead, .dead, .dead, .dead, .dead, .dead, .dead, .dead, .dead, .dead, .dead, .dead, .dead, .dead, .dead, .dead, .dead, .dead, .dead, .dead, .dead, .dead, .dead, .dead, .dead, .dead, .dead, .dead, .dead, .dead, .dead, .dead, .dead, .dead, .dead, .dead, .dead, .dead, .dead, .dead, .dead, .dead, .dead, .dead, .dead, .dead, .dead, .dead, .dead, .dead], [.dead]⟩
noncomputable def dec18 (s : St) : Option V18 := match gV (.sl (.sl (.int .i64))) (s.T.getD 1 .dead), gV (.sl (.sl (.int .i64))) (s.T.getD 5 .dead), gV (.int .i64) (s.T.getD 13 .dead) with | some a1, some a5, some a13 => some (a1, a5, a13) | _, _, _ => none
noncomputable def keep18 : List Nat := [1, 5, 13]
noncomputable def body18 : Code := bodyAt (loopsOf (bodyOf Try.f4)) 18
noncomputable def s0 (x4 : Bool) : St := ⟨[.dead, .dead, .dead, .dead, .v .bool x4, .dead, .dead, .dead, .dead, .dead, .dead, .dead, .dead, .dead, .dead, .dead, .dead, .dead, .dead, .dead, .dead, .dead, .dead, .dead, .dead, .dead, .dead, .dead, .dead, .dead, .dead, .dead, .dead, .dead, .dead, .dead, .dead, .dead, .dead, .dead, .dead, .dead, .dead, .dead, .dead, .dead, .dead, .dead, .dead, .dead, .dead, .dead, .dead, .dead, .dead, .dead, .dead, .dead, .dead, .dead, .dead, .dead, .dead, .dead, .dead, .dead, .dead, .dead, .dead, .dead, .dead, .dead, .dead, .dead, .dead, .dead, .dead, .dead, .dead, .dead, .dead, .dead, .dead, .dead, .dead, .dead, .dead, .dead, .dead, .dead, .dead, .dead, .dead, .dead, .dead, .dead, .dead, .dead, .dead, .dead, .dead, .dead, .dead, .dead, .dead, .dead], []⟩
noncomputable def s1 (x0 : (List D30)) (x1 : (List (List Int))) (n5 : Nat) (h0 : (List (List Int))) : St := ⟨[.v (.sl T30) x0, .v (.sl (.sl (.int .i64))) x1, .dead, .dead, .dead, .v .ref (.sl 0 0 n5), .dead, .dead, .dead, .dead, .dead, .dead, .dead, .dead, .dead, .dead, .dead, .dead, .dead, .dead, .dead, .dead, .dead, .dead, .dead, .dead, .dead, .dead, .dead, .dead, .dead, .dead, .dead, .dead, .dead, .dead, .dead, .dead, .dead, .dead, .dead, .dead, .dead, .dead, .dead, .dead, .dead, .dead, .dead, .dead, .dead, .dead, .dead, .dead, .dead, .dead, .dead, .dead, .dead, .dead, .dead, .dead, .dead, .dead, .dead, .dead, .dead, .dead, .dead, .dead, .dead, .dead, .dead, .dead, .dead, .dead, .dead, .dead, .dead, .dead, .dead, .dead, .dead, .dead, .dead, .dead, .dead, .dead, .dead, .dead, .dead, .dead, .dead, .dead, .dead, .dead, .dead, .dead, .dead, .dead, .dead, .dead, .dead, .dead, .dead, .dead], [.row (.sl (.int .i64)) h0 40]⟩
noncomputable def s2 : St := ⟨[.dead, .dead, .dead, .dead, .dead, .dead, .dead, .dead, .dead, .dead, .dead, .dead, .dead, .dead, .dead, .dead, .dead, .dead, .dead, .dead, .dead, .dead, .dead, .dead, .dead, .dead, .dead, .dead, .dead, .dead, .dead, .dead, .dead, .dead, .dead, .dead, .dead, .dead, .dead, .dead, .dead, .dead, .dead, .dead, .dead, .dead, .dead, .dead, .dead, .dead, .dead, .dead, .dead, .dead, .dead, .dead, .dead, .dead, .dead, .dead, .dead, .dead, .dead, .dead, .dead, .dead, .dead, .dead, .dead, .dead, .dead, .dead, .dead, .dead, .dead, .dead, .dead, .dead, .dead, .dead, .dead, .dead, .dead, .dead, .dead, .dead, .dead, .dead, .dead, .dead, .dead, .dead, .dead, .dead, .dead, .dead, .dead, .dead, .dead, .dead, .dead, .dead, .dead, .dead, .dead, .dead], [.dead]⟩
/-- Are these orders few and short enough? -/
def ok6 : List (List Int) → Int → Bool
  | [], _ => true
  | o :: r, n => bif decide ((o.length : Int) > 400) then false else bif decide (n + (o.length : Int) > 400) then false else ok6 r (n + (o.length : Int))
theorem ok6_le : ∀ (r : List (List Int)) (n : Int), n ≤ 400 → ok6 r n = true → (∀ o ∈ r, o.length ≤ 400) ∧ n + (r.flatten.length : Int) ≤ 400
  | [], n, h, _ => ⟨fun o h => (nomatch h), by rw [List.flatten_nil, List.length_nil]; omega⟩
  | o :: r, n, h, hr => by
    rw [ok6] at hr
    by_cases h1 : (o.length : Int) > 400
    · rw [decide_eq_true h1] at hr; cases hr
    by_cases h2 : n + (o.length : Int) > 400
    · rw [decide_eq_false h1, decide_eq_true h2] at hr; cases hr
    rw [decide_eq_false h1, decide_eq_false h2] at hr
    obtain ⟨a, b⟩ := ok6_le r (n + (o.length : Int)) (by omega) hr
    rw [List.flatten_cons, List.length_append]
    refine ⟨fun x hx => ?_, by omega⟩
    rcases List.mem_cons.1 hx with rfl | hx
    · omega
    · exact a x hx
def Q6 : V6 → (Nat → St → Prop) → (St → Prop) → Prop := fun (cs, orders, n5, n, i, h) X R => 0 ≤ i ∧ i ≤ orders.length ∧ orders.length ≤ 400 ∧ 0 ≤ n ∧ n ≤ 400 ∧ n5 = h.length ∧ h = orders.take i.toNat ∧
  bif ok6 (orders.drop i.toNat) n then X 0 (s1 cs orders orders.length orders) else R (s0 true)
def Q18 : V18 → (Nat → St → Prop) → (St → Prop) → Prop := fun (orders, o, i) X R => 0 ≤ i ∧ i ≤ orders.length ∧ orders.length ≤ 400 ∧ o = orders ∧ (∀ x ∈ orders, x.length ≤ 400) ∧ X 2 s2
noncomputable def purs : List (Nat × (List Ty × (List AV → PV))) := [(9, (Go.Proofs.Ytdjdbjcapenjeaa.C.F9.ts, Go.Proofs.Ytdjdbjcapenjeaa.C.F9.G)), (13, (Go.Proofs.Ytdjdbjcapenjeaa.C.F13.ts, Go.Proofs.Ytdjdbjcapenjeaa.C.F13.G)), (14, (Go.Proofs.Ytdjdbjcapenjeaa.O.F14.ts, Go.Proofs.Ytdjdbjcapenjeaa.O.F14.G)), (15, (Go.Proofs.Ytdjdbjcapenjeaa.R.F15.ts, Go.Proofs.Ytdjdbjcapenjeaa.R.F15.G)), (16, (Go.Proofs.Ytdjdbjcapenjeaa.A.F16.ts, Go.Proofs.Ytdjdbjcapenjeaa.A.F16.G)), (17, (Go.Proofs.Ytdjdbjcapenjeaa.B.F17.ts, Go.Proofs.Ytdjdbjcapenjeaa.B.F17.G))]
noncomputable def callF (g : FuncId) : CF := fun _ _ _ => False
noncomputable def L6 : K → Nat → St → Prop := mkL dec6 st6 0 1 [] Q6
noncomputable def L18 : K → Nat → St → Prop := mkL dec18 st18 0 1 [] Q18
noncomputable def loops : List (Nat × (List Nat × (K → Nat → St → Prop))) := [(6, (keep6, L6)), (18, (keep18, L18))]
noncomputable def C : Ctx := { ti := ti, meth := meth, can := can, pur := purOf purs, loops := fun i => seek loops i, gh := fun _ => [], owns := fun i => seek [(5, ((.sl (.int .i64)), 40))] i, frz := [50, 57], xk := fun i => seek [(0, ([0, 1, 5], 0)), (2, ([], 0))] i, rk := some ([4], 0) }
noncomputable def Round6 (x0 : (List D30)) (x1 : (List (List Int))) (n5 : Nat) (x6 : Int) (x7 : Int) (h0 : (List (List Int))) (N : St → Prop) (X : Nat → St → Prop) (R : St → Prop) : Prop :=
  (bif decide (x7 < (↑x1.length : Int)) then (((0 : Int) ≤ x7) ∧ ((x7 < (↑x1.length : Int)) ∧ (((0 : Int) ≤ x7) ∧ ((x7 < (↑x1.length : Int)) ∧ (bif decide ((↑(List.length (x1.getD x7.toNat [])) : Int) > (400 : Int)) then R (s0 (true)) else (bif decide (IntKind.i64.wrap (x6 + (↑(List.length (x1.getD x7.toNat [])) : Int)) > (400 : Int)) then R (s0 (true)) else (((0 : Int) ≤ x7) ∧ ((x7 < (↑x1.length : Int)) ∧ ((List.length (x1.getD x7.toNat []) ≤ (8796093022208 : Nat)) ∧ (((0 : Nat) + List.length (x1.getD x7.toNat []) ≤ List.length (x1.getD x7.toNat [])) ∧ ((n5 ≤ h0.length) ∧ ((n5 + (1 : Nat) ≤ (2932031007402 : Nat)) ∧ (((0 : Nat) + (1 : Nat) ≤ (1 : Nat)) ∧ N (st6 (x0, x1, n5 + (1 : Nat), IntKind.i64.wrap (x6 + (↑(List.length (x1.getD x7.toNat [])) : Int)), IntKind.i64.wrap (x7 + (1 : Int)), List.take n5 h0 ++ [List.take (List.length (x1.getD x7.toNat [])) (x1.getD x7.toNat [])]))))))))))))))) else X 0 (s1 (x0) (x1) (n5) (h0)))
theorem round6 (x0 : (List D30)) (x1 : (List (List Int))) (n5 : Nat) (x6 : Int) (x7 : Int) (h0 : (List (List Int))) (N : St → Prop) (X : Nat → St → Prop) (R : St → Prop) : exec C callF body6 ⟨0, [1], fun s' => cond (Nat.ble 1 s'.H.length) (N (scrub keep6 1 s')) False, X, R⟩ (st6 (x0, x1, n5, x6, x7, h0)) = Round6 x0 x1 n5 x6 x7 h0 N X R := by kernel_rfl
noncomputable def Round18 (x1 : (List (List Int))) (x5 : (List (List Int))) (x13 : Int) (N : St → Prop) (X : Nat → St → Prop) (R : St → Prop) : Prop :=
  (bif decide (x13 < (↑x5.length : Int)) then (((0 : Int) ≤ x13) ∧ ((x13 < (↑x5.length : Int)) ∧ (((0 : Int) ≤ x13) ∧ ((x13 < (↑x1.length : Int)) ∧ ((List.length (x5.getD x13.toNat []) ≤ LB) ∧ (bif !B.F17.val (x5.getD x13.toNat []) (x1.getD x13.toNat []) then R (s0 (false)) else N (st18 (x1, x5, IntKind.i64.wrap (x13 + (1 : Int)))))))))) else X 2 (s2))
theorem round18 (x1 : (List (List Int))) (x5 : (List (List Int))) (x13 : Int) (N : St → Prop) (X : Nat → St → Prop) (R : St → Prop) : exec C callF body18 ⟨0, [1], fun s' => cond (Nat.ble 1 s'.H.length) (N (scrub keep18 1 s')) False, X, R⟩ (st18 (x1, x5, x13)) = Round18 x1 x5 x13 N X R := by kernel_rfl
noncomputable def Main (calls : (List D30)) (orders : (List (List Int))) (k : AV → Prop) : Prop :=
  (bif decide ((↑calls.length : Int) > (400 : Int)) then k (.v .bool (true)) else (bif decide ((↑orders.length : Int) > (400 : Int)) then k (.v .bool (true)) else (st6 (calls, orders, (0 : Nat), (0 : Int), (0 : Int), []) = st6 (calls, orders, (0 : Nat), (0 : Int), (0 : Int), []) ∧ (((0 : Int) ≤ (0 : Int)) ∧ (((0 : Int) ≤ (↑orders.length : Int)) ∧ ((orders.length ≤ (400 : Nat)) ∧ (((0 : Int) ≤ (0 : Int)) ∧ (((0 : Int) ≤ (400 : Int)) ∧ (((0 : Nat) = (0 : Nat)) ∧ (([] = List.take (Int.toNat (0 : Int)) orders) ∧ (bif ok6 orders (0 : Int) then ((calls.length ≤ LB) ∧ ((∀ (c : T30.D), c ∈ calls → C.F9.LC c) ∧ (((0 : Nat) + orders.length ≤ orders.length) ∧ (((0 : Nat) + orders.length ≤ orders.length) ∧ ((calls.length ≤ LB) ∧ (((List.take orders.length orders).length ≤ LB) ∧ ((∀ (o : (Ty.int IntKind.i64).sl.D), o ∈ List.take orders.length orders → List.length o ≤ LB) ∧ ((O.F14.sm (List.map N.ln0 (List.take orders.length orders)) ≤ (↑LB : Int)) ∧ ((N.F32.okL calls (List.take orders.length orders) = true → M.LOK calls (List.map N.ln0 (List.take orders.length orders))) ∧ ((calls.length ≤ LB) ∧ ((orders.length ≤ LB) ∧ ((orders.flatten.length ≤ LB) ∧ ((D.lst calls [] orders.flatten = true → Q.F37.OR calls orders) ∧ (bif A.F16.val (O.F14.val calls (List.take orders.length orders)).snd != (R.F15.val calls orders).snd then k (.v .bool (false)) else (((O.F14.val calls (List.take orders.length orders)).fst.length ≤ LB) ∧ (bif !B.F17.val (O.F14.val calls (List.take orders.length orders)).fst (R.F15.val calls orders).fst then k (.v .bool (false)) else ((calls = calls) ∧ ((calls.length ≤ LB) ∧ ((∀ (c : T30.D), c ∈ calls → C.F9.LC c) ∧ (bif (↑(List.take orders.length orders).length : Int) != (↑orders.length : Int) then k (.v .bool (false)) else (st18 (orders, List.take orders.length orders, (0 : Int)) = st18 (orders, List.take orders.length orders, (0 : Int)) ∧ (((0 : Int) ≤ (0 : Int)) ∧ (((0 : Int) ≤ (↑orders.length : Int)) ∧ ((orders.length ≤ (400 : Nat)) ∧ ((List.take orders.length orders = orders) ∧ ((∀ (x : List Int), x ∈ orders → x.length ≤ (400 : Nat)) ∧ k (.v .bool (true)))))))))))))))))))))))))))) else k (.v .bool (true)))))))))))))
theorem main (calls : (List D30)) (orders : (List (List Int))) (k : AV → Prop) : (runFn C callF Try.f4 [.v (.sl (.pair (.int .u8) (.pair (.int .u64) (.pair (.pair (.int .u8) (.pair (.int .u64) (.pair (.int .u64) (.pair (.sl (.int .u8)) (.pair (.sl (.int .u8)) (.pair .bool (.pair (.int .u8) .unit))))))) (.pair (.int .u8) (.pair (.sl (.int .u8)) (.pair (.int .i64) (.pair (.int .i64) .unit)))))))) calls, .v (.sl (.sl (.int .i64))) orders] [] (fun r H => coRes H [.bool] r k)) = Main calls orders k := by kernel_rfl
theorem loop6 (v : V6) (X : Nat → St → Prop) (R : St → Prop) : Q6 v X R → ∃ m, loopN C callF keep6 1 body6 ⟨0, [], fun _ => False, X, R⟩ m (st6 v) := by
  refine loop_ind (fun v => Q6 v X R) (fun (cs, orders, n5, n, i, h) => orders.length - i.toNat) ?_ v
  rintro ⟨cs, orders, n5, n, i, h⟩ ⟨h0, h1, h2, hn0, hn1, hh, he, h4⟩ N hN
  rw [round6]
  obtain ⟨j, rfl⟩ : ∃ a : Nat, i = a := ⟨i.toNat, by omega⟩
  dsimp only at hN
  rw [Int.toNat_natCast] at h4 he
  refine bif_d (fun hj => ?_) (fun hj => ?_)
  · have hn : j < orders.length := by omega
    rw [drop_cons hn [], ok6] at h4
    rw [Int.toNat_natCast, w64n (by unfold LB; omega)]
    refine ⟨by omega, by omega, by omega, by omega, bif_d (fun x => ?_) (fun x => ?_)⟩
    · rw [decide_eq_true x] at h4; exact h4
    · rw [decide_eq_false x, cond_false] at h4
      have e1 : IntKind.i64.wrap (n + ((orders.getD j []).length : Int)) = n + ((orders.getD j []).length : Int) := w64 (by omega) (by omega)
      rw [e1]
      refine bif_d (fun y => ?_) (fun y => ?_)
      · rw [decide_eq_true y] at h4; exact h4
      · rw [decide_eq_false y, cond_false] at h4
        have hl : h.length = j := by rw [he, List.length_take]; omega
        refine ⟨by omega, by omega, by omega, by omega, by omega, by omega, by decide, ?_⟩
        rw [List.take_length, hh, List.take_length]
        exact hN (cs, orders, h.length + 1, n + ((orders.getD j []).length : Int), ((j + 1 : Nat) : Int), h ++ [orders.getD j []]) ⟨by omega, by omega, h2, by omega, by omega, by simp, by rw [Int.toNat_natCast, D.take_snoc hn [], he], by rw [Int.toNat_natCast]; exact h4⟩ (by dsimp only; omega)
  · rw [List.drop_eq_nil_of_le (by omega), ok6, cond_true] at h4
    rw [List.take_of_length_le (by omega)] at he
    rw [hh, he]; exact h4
theorem loop18 (v : V18) (X : Nat → St → Prop) (R : St → Prop) : Q18 v X R → ∃ m, loopN C callF keep18 1 body18 ⟨0, [], fun _ => False, X, R⟩ m (st18 v) := by
  refine loop_ind (fun v => Q18 v X R) (fun (orders, o, i) => orders.length - i.toNat) ?_ v
  rintro ⟨orders, o, i⟩ ⟨h0, h1, h2, rfl, hm, h4⟩ N hN
  rw [round18]
  obtain ⟨j, rfl⟩ : ∃ a : Nat, i = a := ⟨i.toNat, by omega⟩
  dsimp only at hN
  refine bif_d (fun hj => ?_) (fun hj => h4)
  have hn : j < o.length := by omega
  have hl := hm _ (C.F9.getD_mem hn [])
  rw [Int.toNat_natCast, w64n (by unfold LB; omega)]
  refine ⟨by omega, by omega, by omega, by omega, Nat.le_trans hl (by decide), bif_i (fun x => ?_) (fun x => ?_)⟩
  · rw [show B.F17.val (o.getD j []) (o.getD j []) = true by simp [B.F17.val]] at x; cases x
  · exact hN (o, o, ((j + 1 : Nat) : Int)) ⟨by omega, by omega, h2, rfl, hm, h4⟩ (by dsimp only; omega)
theorem mgD_len (cs : List D30) (orders : List (List Int)) : ∀ (f : Nat) (left out : List Int), (R.F15.mgD cs orders f left out).2.length ≤ out.length + f
  | 0, left, out => Nat.le_refl _
  | f + 1, left, out => by
    rw [R.F15.mgD]
    cases decide ((left.length : Int) > 0) with
    | false => show out.length ≤ _; omega
    | true =>
      cases decide (R.F15.bsD cs left orders (-1) < 0) with
      | true => show out.length ≤ _; omega
      | false =>
        have := mgD_len cs orders f (left.filter (· != R.F15.bsD cs left orders (-1))) (out ++ [R.F15.bsD cs left orders (-1)])
        rw [List.length_append, List.length_singleton] at this
        rw [cond_true, cond_false]; omega
theorem val_small (cs : List D30) (orders : List (List Int)) : (R.F15.val cs orders).1.length ≤ orders.flatten.length ∧ A.F16.val (R.F15.val cs orders).2 = (R.F15.val cs orders).2 := by
  have h := mgD_len cs orders orders.flatten.length orders.flatten []
  rw [List.length_nil, Nat.zero_add] at h
  unfold R.F15.val
  cases cs.all B.F25.val <;> cases D.lst cs [] orders.flatten <;> cases (List.range' 0 cs.length).all (D.F36.inOr cs orders.flatten) <;> cases (List.range' 0 orders.length).all (Q.F37.apO cs orders) <;> cases (R.F15.mgD cs orders orders.flatten.length orders.flatten []).1 <;> first
    | exact ⟨Nat.zero_le _, rfl⟩
    | exact ⟨h, rfl⟩
theorem spec (cs : List D30) (orders : List (List Int)) (k : AV → Prop) (h : AllP [cs.length ≤ LB, ∀ c ∈ cs, C.F9.LC c]) (hk : k (.v .bool true)) : Main cs orders k := by
  obtain ⟨hc, hl, _⟩ := h
  refine bif_d (fun _ => hk) (fun _ => bif_d (fun _ => hk) (fun h4 => ⟨rfl, by omega, by omega, by omega, by omega, by omega, rfl, rfl, ?_⟩))
  show bif ok6 orders 0 then _ else _
  refine bif_i (fun x => ?_) (fun _ => hk)
  obtain ⟨hm, hf⟩ := ok6_le orders 0 (by decide) x
  have hm' : ∀ o ∈ orders, o.length ≤ LB := fun o ho => Nat.le_trans (hm o ho) (by decide)
  have hv := PMerge.val_eq cs orders hm'
  obtain ⟨hs1, hs2⟩ := val_small cs orders
  have hf' : orders.flatten.length ≤ LB := by unfold LB; omega
  rw [List.take_length, hv, hs2]
  refine ⟨hc, hl, by omega, by omega, hc, by unfold LB; omega, hm', ?_, fun h => PMerge.lst_LOK hm' (PMerge.okL_lst h), hc, by unfold LB; omega, hf', PMerge.lst_OR hm', bif_i (fun e => ?_) (fun _ => ⟨Nat.le_trans hs1 hf', bif_i (fun e => ?_) (fun _ => ⟨rfl, hc, hl, bif_i (fun e => ?_) (fun _ => ⟨rfl, by omega, by omega, by omega, rfl, hm, hk⟩)⟩)⟩)⟩
  · rw [PMergeB.sm_eq]; unfold LB; omega
  · rw [bne_self_eq_false] at e; cases e
  · rw [show B.F17.val (R.F15.val cs orders).1 (R.F15.val cs orders).1 = true by simp [B.F17.val]] at e; cases e
  · rw [bne_self_eq_false] at e; cases e
noncomputable def ts : List Ty := [(.sl T30), (.sl (.sl (.int .i64)))]
noncomputable def G : List AV → PV := pg2 (.sl T30) (.sl (.sl (.int .i64))) (fun calls orders => [calls.length ≤ LB, ∀ c ∈ calls, C.F9.LC c]) (fun calls orders => .v .bool true)
theorem loopsOK : LoopsOK C callF (bodyOf Try.f4) := loopsOK_seek (tbl := loops) (fun _ => rfl) (by kernel_rfl) (List.forall_mem_cons.2 ⟨mkL_ok loop6, List.forall_mem_cons.2 ⟨mkL_ok loop18, fun _ h => nomatch h⟩⟩)
theorem pursOK : ∀ g ts F, C.pur g = some (ts, F) → SoundP Try.prog g F := purOf_ok (l := purs) (List.forall_mem_cons.2 ⟨Go.Proofs.Ytdjdbjcapenjeaa.C.F9.ok, List.forall_mem_cons.2 ⟨Go.Proofs.Ytdjdbjcapenjeaa.C.F13.ok, List.forall_mem_cons.2 ⟨Go.Proofs.Ytdjdbjcapenjeaa.O.F14.ok, List.forall_mem_cons.2 ⟨Go.Proofs.Ytdjdbjcapenjeaa.R.F15.ok, List.forall_mem_cons.2 ⟨Go.Proofs.Ytdjdbjcapenjeaa.A.F16.ok, List.forall_mem_cons.2 ⟨Go.Proofs.Ytdjdbjcapenjeaa.B.F17.ok, fun _ h => nomatch h⟩⟩⟩⟩⟩⟩)
theorem cfsOK : ∀ g, SoundF Try.prog g (callF g) := fun g => soundF_none g
theorem ok : SoundP Try.prog 4 G := by
  unfold G
  refine soundP_pg2 (soundF_run (C := C) (callF := callF) (tabOK C rfl rfl rfl) cfsOK pursOK Try.func4 (by kernel_rfl) loopsOK) [.bool] fun calls orders h => ?_
  rw [main]
  exact spec calls orders _ h rfl
end F4

end Go.Proofs.Ytdjdbjcapenjeaa.LM
