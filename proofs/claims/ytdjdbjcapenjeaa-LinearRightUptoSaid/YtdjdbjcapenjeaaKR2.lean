/- all the orders that there are -/
import Derived.Test.YtdjdbjcapenjeaaDxTab
import Derived.Test.YtdjdbjcapenjeaaDx3
import Derived.Test.YtdjdbjcapenjeaaDxTy
import Derived.Test.YtdjdbjcapenjeaaKR1
import Derived.Test.YtdjdbjcapenjeaaD
import Derived.Test.YtdjdbjcapenjeaaE
set_option linter.unusedVariables false
set_option maxRecDepth 100000
open Go Go.Proofs Go.Proofs.Ytdjdbjcapenjeaa.Dx Go.Proofs.Ytdjdbjcapenjeaa.Dx.TYtdjdbjcapenjeaa
namespace Go.Proofs.Ytdjdbjcapenjeaa.KR2
abbrev FU : Type := Nat
abbrev FUof (n : Nat) : FU := n
/-- How many calls an order lacks. -/
def un (cs : List D30) (o : List Int) : Nat := ((List.range' 0 cs.length).filter fun (i : Nat) => !o.any (· == (i : Int))).length
def preP (f : Nat) (cs : List D30) (o : List Int) : Prop := cs.length ≤ 6 ∧ o.length + un cs o ≤ 40 ∧ un cs o < f
def permF : Nat → List D30 → List Int → Bool
  | 0, _, _ => false
  | f + 1, cs, o => bif E.F18.val cs o then true else (List.range' 0 cs.length).any fun (i : Nat) => !o.any (· == (i : Int)) && permF f cs (o ++ [(i : Int)])
noncomputable def GG (fu : FU) : List AV → PV := pg2 (.sl T30) (.sl (.int .i64)) (fun cs o => [preP fu cs o]) (fun cs o => .v .bool (permF fu cs o))
theorem GG_zero : SoundP Try.prog 24 (GG (FUof 0)) := by
  intro args h
  have h' : False := pg2_use (a := .sl T30) (b := .sl (.int .i64)) (pre := fun cs o => [preP 0 cs o]) (f := fun cs o => .v .bool (permF 0 cs o)) (P := fun _ _ => False) (fun x y hh => Nat.not_lt_zero _ hh.1.2.2) args h
  exact h'.elim
namespace F24
noncomputable def ts : List Ty := [(.sl T30), (.sl (.int .i64))]
abbrev V4 := (List D30) × (List Int) × Int
noncomputable def st4 (v : V4) : St := ⟨[.v (.sl T30) (v.1), .v (.sl (.int .i64)) (v.2.1), .dead, .dead, .dead, .v (.int .i64) (v.2.2), .dead, .dead, .dead, .dead, .dead, .dead, .dead, .dead, .dead, .dead, .dead, .dead, .dead, .dead, .dead, .dead, .dead, .dead, .dead, .dead, .dead, .dead, .dead, .dead, .dead, .dead, .dead, .dead, .dead, .dead, .dead, .dead, .dead, .dead, .dead, .dead, .dead], []⟩
noncomputable def dec4 (s : St) : Option V4 := match gV (.sl T30) (s.T.getD 0 .dead), gV (.sl (.int .i64)) (s.T.getD 1 .dead), gV (.int .i64) (s.T.getD 5 .dead) with | some a0, some a1, some a5 => some (a0, a1, a5) | _, _, _ => none
noncomputable def keep4 : List Nat := [0, 1, 5]
noncomputable def body4 : Code := bodyAt (loopsOf (bodyOf Try.f24)) 4
abbrev V8 := (List D30) × (List Int) × Int × Bool × Int
noncomputable def st8 (v : V8) : St := ⟨[.v (.sl T30) (v.1), .v (.sl (.int .i64)) (v.2.1), .dead, .dead, .dead, .v (.int .i64) (v.2.2.1), .v .bool (v.2.2.2.1), .v (.int .i64) (v.2.2.2.2), .dead, .dead, .dead, .dead, .dead, .dead, .dead, .dead, .dead, .dead, .dead, .dead, .dead, .dead, .dead, .dead, .dead, .dead, .dead, .dead, .dead, .dead, .dead, .dead, .dead, .dead, .dead, .dead, .dead, .dead, .dead, .dead, .dead, .dead, .dead], []⟩
noncomputable def dec8 (s : St) : Option V8 := match gV (.sl T30) (s.T.getD 0 .dead), gV (.sl (.int .i64)) (s.T.getD 1 .dead), gV (.int .i64) (s.T.getD 5 .dead), gV .bool (s.T.getD 6 .dead), gV (.int .i64) (s.T.getD 7 .dead) with | some a0, some a1, some a5, some a6, some a7 => some (a0, a1, a5, a6, a7) | _, _, _, _, _ => none
noncomputable def keep8 : List Nat := [0, 1, 5, 6, 7]
noncomputable def body8 : Code := bodyAt (loopsOf (bodyOf Try.f24)) 8
noncomputable def s0 (x4 : Bool) : St := ⟨[.dead, .dead, .dead, .dead, .v .bool x4, .dead, .dead, .dead, .dead, .dead, .dead, .dead, .dead, .dead, .dead, .dead, .dead, .dead, .dead, .dead, .dead, .dead, .dead, .dead, .dead, .dead, .dead, .dead, .dead, .dead, .dead, .dead, .dead, .dead, .dead, .dead, .dead, .dead, .dead, .dead, .dead, .dead, .dead], []⟩
noncomputable def s1 : St := ⟨[.dead, .dead, .dead, .dead, .dead, .dead, .dead, .dead, .dead, .dead, .dead, .dead, .dead, .dead, .dead, .dead, .dead, .dead, .dead, .dead, .dead, .dead, .dead, .dead, .dead, .dead, .dead, .dead, .dead, .dead, .dead, .dead, .dead, .dead, .dead, .dead, .dead, .dead, .dead, .dead, .dead, .dead, .dead], []⟩
noncomputable def s2 (x0 : (List D30)) (x1 : (List Int)) (x5 : Int) (x6 : Bool) : St := ⟨[.v (.sl T30) x0, .v (.sl (.int .i64)) x1, .dead, .dead, .dead, .v (.int .i64) x5, .v .bool x6, .dead, .dead, .dead, .dead, .dead, .dead, .dead, .dead, .dead, .dead, .dead, .dead, .dead, .dead, .dead, .dead, .dead, .dead, .dead, .dead, .dead, .dead, .dead, .dead, .dead, .dead, .dead, .dead, .dead, .dead, .dead, .dead, .dead, .dead, .dead, .dead], []⟩
theorem range_cons {j n : Nat} (h : j < n) : List.range' j (n - j) = j :: List.range' (j + 1) (n - (j + 1)) := by
  rw [show n - j = (n - (j + 1)) + 1 by omega, List.range'_succ]
theorem fil_le {p q : Nat → Bool} (h : ∀ k, q k = true → p k = true) : ∀ l : List Nat, (l.filter q).length ≤ (l.filter p).length
  | [] => Nat.le_refl _
  | k :: l => by
    have ih := fil_le h l
    rw [List.filter_cons, List.filter_cons]
    cases hq : q k with
    | true => rw [h k hq, if_pos rfl, if_pos rfl, List.length_cons, List.length_cons]; omega
    | false =>
      rw [if_neg (by decide)]
      cases p k with
      | true => rw [if_pos rfl, List.length_cons]; omega
      | false => rw [if_neg (by decide)]; exact ih
theorem fil_lt {p q : Nat → Bool} {i : Nat} (h : ∀ k, q k = true → p k = true) (hp : p i = true) (hq : q i = false) : ∀ l : List Nat, i ∈ l → (l.filter q).length + 1 ≤ (l.filter p).length
  | [], hi => (nomatch hi)
  | k :: l, hi => by
    rw [List.filter_cons, List.filter_cons]
    by_cases e : k = i
    · subst e
      have := fil_le h l
      rw [hp, hq, if_pos rfl, if_neg (by decide), List.length_cons]; omega
    · have ih := fil_lt h hp hq l ((List.mem_cons.1 hi).resolve_left (fun e' => e e'.symm))
      cases hk : q k with
      | true => rw [h k hk, if_pos rfl, if_pos rfl, List.length_cons, List.length_cons]; omega
      | false =>
        rw [if_neg (by decide)]
        cases p k with
        | true => rw [if_pos rfl, List.length_cons]; omega
        | false => rw [if_neg (by decide)]; exact ih
theorem un_lt {cs : List D30} {o : List Int} {i : Nat} (hi : i < cs.length) (hu : o.any (· == (i : Int)) = false) : un cs (o ++ [(i : Int)]) + 1 ≤ un cs o := by
  refine fil_lt (i := i) (fun k hk => ?_) (by rw [hu]; rfl) ?_ _ (KP3.range_mem.2 hi)
  · rw [List.any_append, Bool.not_or, Bool.and_eq_true] at hk; exact hk.1
  · rw [List.any_append, List.any_cons, beq_self_eq_true, Bool.true_or, Bool.or_true]; rfl
def Q8 : FU → V8 → (Nat → St → Prop) → (St → Prop) → Prop := fun fu (cs, o, i, u, j) X R => 0 ≤ j ∧ j ≤ o.length ∧ o.length ≤ LB ∧ X 2 (s2 cs o i (u || (o.drop j.toNat).any (· == i)))
def Q4 : FU → V4 → (Nat → St → Prop) → (St → Prop) → Prop := fun fu (cs, o, i) X R => 0 ≤ i ∧ i ≤ cs.length ∧ preP (fu + 1) cs o ∧
  bif (List.range' i.toNat (cs.length - i.toNat)).any (fun (i : Nat) => !o.any (· == (i : Int)) && permF fu cs (o ++ [(i : Int)])) then R (s0 true) else X 0 s1
noncomputable def purs (fu : FU) : List (Nat × (List Ty × (List AV → PV))) := [(24, (ts, GG fu)), (18, (Go.Proofs.Ytdjdbjcapenjeaa.E.F18.ts, Go.Proofs.Ytdjdbjcapenjeaa.E.F18.G))]
noncomputable def callF (fu : FU) (g : FuncId) : CF := fun _ _ _ => False
noncomputable def L4 (fu : FU) : K → Nat → St → Prop := mkL dec4 st4 0 0 [] (Q4 fu)
noncomputable def L8 (fu : FU) : K → Nat → St → Prop := mkL dec8 st8 0 0 [0] (Q8 fu)
noncomputable def loops (fu : FU) : List (Nat × (List Nat × (K → Nat → St → Prop))) := [(4, (keep4, L4 fu)), (8, (keep8, L8 fu))]
noncomputable def C (fu : FU) : Ctx := { ti := ti, meth := meth, can := can, pur := purOf (purs fu), loops := fun i => seek (loops fu) i, gh := fun _ => [], xk := fun i => seek [(0, ([], 0)), (2, ([0, 1, 5, 6], 0))] i, rk := some ([4], 0) }
noncomputable def Round4 (fu : FU) (x0 : (List D30)) (x1 : (List Int)) (x5 : Int) (N : St → Prop) (X : Nat → St → Prop) (R : St → Prop) : Prop :=
  (bif decide (x5 < (↑x0.length : Int)) then (st8 (x0, x1, x5, false, (0 : Int)) = st8 (x0, x1, x5, false, (0 : Int)) ∧ (((0 : Int) ≤ (0 : Int)) ∧ (((0 : Int) ≤ (↑x1.length : Int)) ∧ ((x1.length ≤ LB) ∧ (bif false || x1.any fun (x : Int) => x == x5 then N (st4 (x0, x1, IntKind.i64.wrap (x5 + (1 : Int)))) else ((x1.length ≤ roomOf 8) ∧ ((x1.length ≤ x1.length) ∧ ((x1.length + (1 : Nat) ≤ roomOf 8) ∧ (((0 : Nat) + (1 : Nat) ≤ (1 : Nat)) ∧ (((0 : Nat) + (x1.length + (1 : Nat)) ≤ (List.take x1.length x1 ++ [x5]).length) ∧ ((preP fu x0 (List.take (x1.length + (1 : Nat)) (List.take x1.length x1 ++ [x5]))) ∧ (bif permF fu x0 (List.take (x1.length + (1 : Nat)) (List.take x1.length x1 ++ [x5])) then R (s0 (true)) else N (st4 (x0, x1, IntKind.i64.wrap (x5 + (1 : Int)))))))))))))))) else X 0 (s1))
theorem round4 (fu : FU) (x0 : (List D30)) (x1 : (List Int)) (x5 : Int) (N : St → Prop) (X : Nat → St → Prop) (R : St → Prop) : exec (C fu) (callF fu) body4 ⟨0, [0], fun s' => cond (Nat.ble 0 s'.H.length) (N (scrub keep4 0 s')) False, X, R⟩ (st4 (x0, x1, x5)) = Round4 fu x0 x1 x5 N X R := by kernel_rfl
noncomputable def Round8 (fu : FU) (x0 : (List D30)) (x1 : (List Int)) (x5 : Int) (x6 : Bool) (x7 : Int) (N : St → Prop) (X : Nat → St → Prop) (R : St → Prop) : Prop :=
  (bif decide (x7 < (↑x1.length : Int)) then (bif x6 then N (st8 (x0, x1, x5, true, IntKind.i64.wrap (x7 + (1 : Int)))) else (((0 : Int) ≤ x7) ∧ ((x7 < (↑x1.length : Int)) ∧ N (st8 (x0, x1, x5, x1.getD x7.toNat (0 : Int) == x5, IntKind.i64.wrap (x7 + (1 : Int))))))) else X 2 (s2 (x0) (x1) (x5) (x6)))
theorem round8 (fu : FU) (x0 : (List D30)) (x1 : (List Int)) (x5 : Int) (x6 : Bool) (x7 : Int) (N : St → Prop) (X : Nat → St → Prop) (R : St → Prop) : exec (C fu) (callF fu) body8 ⟨0, [0, 0], fun s' => cond (Nat.ble 0 s'.H.length) (N (scrub keep8 0 s')) False, X, R⟩ (st8 (x0, x1, x5, x6, x7)) = Round8 fu x0 x1 x5 x6 x7 N X R := by kernel_rfl
noncomputable def Main (fu : FU) (calls : (List D30)) (order : (List Int)) (k : AV → Prop) : Prop :=
  ((calls.length ≤ LB) ∧ ((order.length ≤ LB) ∧ (bif E.F18.val calls order then k (.v .bool (true)) else (st4 (calls, order, (0 : Int)) = st4 (calls, order, (0 : Int)) ∧ (((0 : Int) ≤ (0 : Int)) ∧ (((0 : Int) ≤ (↑calls.length : Int)) ∧ ((preP (fu + (1 : Nat)) calls order) ∧ (bif (List.range' (Int.toNat (0 : Int)) (calls.length - Int.toNat (0 : Int))).any fun (i : Nat) => (!order.any fun (x : Int) => x == (↑i : Int)) && permF fu calls (order ++ [(↑i : Int)]) then k (.v .bool (true)) else k (.v .bool (false))))))))))
theorem main (fu : FU) (calls : (List D30)) (order : (List Int)) (k : AV → Prop) : (runFn (C fu) (callF fu) Try.f24 [.v (.sl (.pair (.int .u8) (.pair (.int .u64) (.pair (.pair (.int .u8) (.pair (.int .u64) (.pair (.int .u64) (.pair (.sl (.int .u8)) (.pair (.sl (.int .u8)) (.pair .bool (.pair (.int .u8) .unit))))))) (.pair (.int .u8) (.pair (.sl (.int .u8)) (.pair (.int .i64) (.pair (.int .i64) .unit)))))))) calls, .v (.sl (.int .i64)) order] [] (fun r H => coRes H [.bool] r k)) = Main fu calls order k := by kernel_rfl
theorem loop8 (fu : FU) (v : V8) (X : Nat → St → Prop) (R : St → Prop) : Q8 fu v X R → ∃ m, loopN (C fu) (callF fu) keep8 0 body8 ⟨0, [0], fun _ => False, X, R⟩ m (st8 v) := by
  refine loop_ind (fun v => Q8 fu v X R) (fun (cs, o, i, u, j) => o.length - j.toNat) ?_ v
  rintro ⟨cs, o, i, u, j⟩ ⟨h0, h1, h2, h4⟩ N hN
  rw [round8]
  obtain ⟨j, rfl⟩ : ∃ a : Nat, j = a := ⟨j.toNat, by omega⟩
  dsimp only at hN
  rw [Int.toNat_natCast] at h4
  have h2' : o.length ≤ 1073741824 := h2
  refine bif_d (fun hj => ?_) (fun hj => ?_)
  · have hn : j < o.length := by omega
    rw [drop_cons hn 0, List.any_cons] at h4
    rw [Int.toNat_natCast, w64n (by omega)]
    refine bif_i (fun e => ?_) (fun e => ⟨by omega, by omega, ?_⟩)
    · rw [e, Bool.true_or] at h4
      exact hN (cs, o, i, true, ((j + 1 : Nat) : Int)) ⟨by omega, by omega, h2, by rw [Int.toNat_natCast, Bool.true_or]; exact h4⟩ (by dsimp only; omega)
    · rw [e, Bool.false_or] at h4
      exact hN (cs, o, i, _, ((j + 1 : Nat) : Int)) ⟨by omega, by omega, h2, by rw [Int.toNat_natCast]; exact h4⟩ (by dsimp only; omega)
  · rw [List.drop_eq_nil_of_le (by omega), List.any_nil, Bool.or_false] at h4
    exact h4
theorem loop4 (fu : FU) (v : V4) (X : Nat → St → Prop) (R : St → Prop) : Q4 fu v X R → ∃ m, loopN (C fu) (callF fu) keep4 0 body4 ⟨0, [], fun _ => False, X, R⟩ m (st4 v) := by
  refine loop_ind (fun v => Q4 fu v X R) (fun (cs, o, i) => cs.length - i.toNat) ?_ v
  rintro ⟨cs, o, i⟩ ⟨h0, h1, hp, h4⟩ N hN
  rw [round4]
  obtain ⟨j, rfl⟩ : ∃ a : Nat, i = a := ⟨i.toNat, by omega⟩
  dsimp only at hN
  rw [Int.toNat_natCast] at h4
  obtain ⟨p1, p2, p3⟩ := hp
  have hLB : LB = 1073741824 := rfl
  have rm : roomOf 8 = 8796093022208 := rfl
  refine bif_d (fun hj => ?_) (fun hj => ?_)
  · have hn : j < cs.length := by omega
    rw [range_cons hn, List.any_cons] at h4
    rw [w64n (by omega)]
    have next : (bif (List.range' (j + 1) (cs.length - (j + 1))).any (fun (i : Nat) => !o.any (· == (i : Int)) && permF fu cs (o ++ [(i : Int)])) then R (s0 true) else X 0 s1) → N (st4 (cs, o, ((j + 1 : Nat) : Int))) := fun h4 =>
      hN (cs, o, ((j + 1 : Nat) : Int)) ⟨by omega, by omega, ⟨p1, p2, p3⟩, by rw [Int.toNat_natCast]; exact h4⟩ (by dsimp only; omega)
    refine ⟨rfl, Int.le_refl 0, by omega, by omega, bif_i (fun e => ?_) (fun e => ?_)⟩
    · have e' : o.any (· == (j : Int)) = true := by rw [Bool.false_or] at e; exact e
      rw [e', Bool.not_true, Bool.false_and, Bool.false_or] at h4
      exact next h4
    · have e' : o.any (· == (j : Int)) = false := by rw [Bool.false_or] at e; exact e
      rw [e', Bool.not_false, Bool.true_and] at h4
      have hu := un_lt hn e'
      have ht : List.take (o.length + 1) (List.take o.length o ++ [(j : Int)]) = o ++ [(j : Int)] := by
        rw [List.take_length]
        exact List.take_of_length_le (by rw [List.length_append, List.length_singleton]; omega)
      rw [ht, List.take_length]
      refine ⟨by omega, Nat.le_refl _, by omega, by decide, by rw [List.length_append, List.length_singleton]; omega, ⟨p1, by rw [List.length_append, List.length_singleton]; omega, by omega⟩, bif_i (fun e2 => ?_) (fun e2 => ?_)⟩
      · rw [e2, Bool.true_or, cond_true] at h4; exact h4
      · rw [e2, Bool.false_or] at h4; exact next h4
  · rw [show cs.length - j = 0 by omega, show List.range' j 0 = [] from rfl, List.any_nil, cond_false] at h4
    exact h4
theorem spec (m : Nat) (cs : List D30) (o : List Int) (k : AV → Prop) (h : AllP [preP (m + 1) cs o]) (hk : k (.v .bool (permF (m + 1) cs o))) : Main m cs o k := by
  have hp := h.1
  rw [permF] at hk
  have hLB : LB = 1073741824 := rfl
  refine ⟨by have := hp.1; omega, by have := hp.2.1; omega, bif_i (fun e => ?_) (fun e => ⟨rfl, Int.le_refl 0, by omega, hp, bif_i (fun e2 => ?_) (fun e2 => ?_)⟩)⟩
  · rw [e, cond_true] at hk; exact hk
  · rw [e, cond_false] at hk
    have e2' : ((List.range' 0 cs.length).any fun (i : Nat) => !o.any (· == (i : Int)) && permF m cs (o ++ [(i : Int)])) = true := e2
    rw [e2'] at hk; exact hk
  · rw [e, cond_false] at hk
    have e2' : ((List.range' 0 cs.length).any fun (i : Nat) => !o.any (· == (i : Int)) && permF m cs (o ++ [(i : Int)])) = false := e2
    rw [e2'] at hk; exact hk
theorem loopsOK (fu : FU) : LoopsOK (C fu) (callF fu) (bodyOf Try.f24) := loopsOK_seek (tbl := loops fu) (fun _ => rfl) (by kernel_rfl) (List.forall_mem_cons.2 ⟨mkL_ok (loop4 fu), List.forall_mem_cons.2 ⟨mkL_ok (loop8 fu), fun _ h => nomatch h⟩⟩)
theorem pursOK (fu : FU) (ih : SoundP Try.prog 24 (GG fu)) : ∀ g ts F, (C fu).pur g = some (ts, F) → SoundP Try.prog g F := purOf_ok (l := purs fu) (List.forall_mem_cons.2 ⟨ih, List.forall_mem_cons.2 ⟨Go.Proofs.Ytdjdbjcapenjeaa.E.F18.ok, fun _ h => nomatch h⟩⟩)
theorem cfsOK (fu : FU) : ∀ g, SoundF Try.prog g (callF fu g) := fun g => soundF_none g
theorem okN : ∀ n : Nat, SoundP Try.prog 24 (GG (FUof n))
  | 0 => GG_zero
  | m + 1 => by
    unfold GG
    refine soundP_pg2 (soundF_run (C := C (FUof m)) (callF := callF (FUof m)) (tabOK (C (FUof m)) rfl rfl rfl) (cfsOK (FUof m)) (pursOK (FUof m) (okN m)) Try.func24 (by kernel_rfl) (loopsOK (FUof m))) [.bool] fun calls order h => ?_
    rw [main]
    exact spec m calls order _ h rfl
noncomputable def G : List AV → PV := GG (FUof 12)
theorem ok : SoundP Try.prog 24 G := okN _
end F24

end Go.Proofs.Ytdjdbjcapenjeaa.KR2
