/- Obeys -/
import Derived.Test.YtdjdbjcapenjeaaDxTab
import Derived.Test.YtdjdbjcapenjeaaDx3
import Derived.Test.YtdjdbjcapenjeaaDxTy
import Derived.Test.YtdjdbjcapenjeaaC
import Derived.Test.YtdjdbjcapenjeaaA
set_option linter.unusedVariables false
set_option maxRecDepth 100000
open Go Go.Proofs Go.Proofs.Ytdjdbjcapenjeaa.Dx Go.Proofs.Ytdjdbjcapenjeaa.Dx.TYtdjdbjcapenjeaa
namespace Go.Proofs.Ytdjdbjcapenjeaa.D
/-- Is it the number of a call that is no Scan? -/
def okAt (cs : List D30) (y : Int) : Bool := decide (0 ≤ y) && decide (y < cs.length) && !((cs.getD y.toNat d30).2.2.1.1 == 5)
/-- Each is, and none is there twice. -/
def lst (cs : List D30) : List Int → List Int → Bool
  | _, [] => true
  | pre, y :: r => (okAt cs y && !(pre.any (· == y))) && lst cs (pre ++ [y]) r
theorem take_snoc {α : Type} {l : List α} {i : Nat} (h : i < l.length) (d : α) : l.take (i + 1) = l.take i ++ [l.getD i d] := by
  rw [List.take_succ_eq_append_getElem h, List.getD_eq_getElem?_getD, List.getElem?_eq_getElem h]; rfl
theorem lst_step {cs : List D30} {o : List Int} {j : Nat} (h : j < o.length) : lst cs (o.take j) (o.drop j) = ((okAt cs (o.getD j 0) && !((o.take j).any (· == o.getD j 0))) && lst cs (o.take (j + 1)) (o.drop (j + 1))) := by
  rw [drop_cons h 0, lst, take_snoc h 0]
theorem lst_in {cs : List D30} : ∀ (r pre : List Int), lst cs pre r = true → ∀ y ∈ r, okAt cs y = true
  | [], _, _, y, h => by cases h
  | x :: r, pre, h, y, hy => by
    rw [lst, Bool.and_eq_true, Bool.and_eq_true] at h
    rcases List.mem_cons.1 hy with rfl | hy
    · exact h.1.1
    · exact lst_in r _ h.2 y hy
namespace F35
abbrev V2 := (List D30) × (List Int) × Int
noncomputable def st2 (v : V2) : St := ⟨[.v (.sl T30) (v.1), .v (.sl (.int .i64)) (v.2.1), .dead, .dead, .dead, .v (.int .i64) (v.2.2), .dead, .dead, .dead, .dead, .dead, .dead, .dead, .dead, .dead, .dead, .dead, .dead, .dead, .dead, .dead, .dead, .dead, .dead, .dead, .dead, .dead, .dead, .dead, .dead, .dead, .dead, .dead, .dead, .dead, .dead, .dead, .dead, .dead, .dead, .dead, .dead, .dead, .dead, .dead, .dead, .dead, .dead], []⟩
noncomputable def dec2 (s : St) : Option V2 := match gV (.sl T30) (s.T.getD 0 .dead), gV (.sl (.int .i64)) (s.T.getD 1 .dead), gV (.int .i64) (s.T.getD 5 .dead) with | some a0, some a1, some a5 => some (a0, a1, a5) | _, _, _ => none
noncomputable def keep2 : List Nat := [0, 1, 5]
noncomputable def body2 : Code := bodyAt (loopsOf (bodyOf Try.f35)) 2
noncomputable def s0 (x4 : Bool) : St := ⟨[.dead, .dead, .dead, .dead, .v .bool x4, .dead, .dead, .dead, .dead, .dead, .dead, .dead, .dead, .dead, .dead, .dead, .dead, .dead, .dead, .dead, .dead, .dead, .dead, .dead, .dead, .dead, .dead, .dead, .dead, .dead, .dead, .dead, .dead, .dead, .dead, .dead, .dead, .dead, .dead, .dead, .dead, .dead, .dead, .dead, .dead, .dead, .dead, .dead], []⟩
noncomputable def s1 : St := ⟨[.dead, .dead, .dead, .dead, .dead, .dead, .dead, .dead, .dead, .dead, .dead, .dead, .dead, .dead, .dead, .dead, .dead, .dead, .dead, .dead, .dead, .dead, .dead, .dead, .dead, .dead, .dead, .dead, .dead, .dead, .dead, .dead, .dead, .dead, .dead, .dead, .dead, .dead, .dead, .dead, .dead, .dead, .dead, .dead, .dead, .dead, .dead, .dead], []⟩
def Q2 : V2 → (Nat → St → Prop) → (St → Prop) → Prop := fun (cs, o, i) X R => 0 ≤ i ∧ i ≤ o.length ∧ o.length ≤ LB ∧ bif lst cs (o.take i.toNat) (o.drop i.toNat) then X 0 s1 else R (s0 false)
noncomputable def purs : List (Nat × (List Ty × (List AV → PV))) := [(38, (Go.Proofs.Ytdjdbjcapenjeaa.C.F38.ts, Go.Proofs.Ytdjdbjcapenjeaa.C.F38.G))]
noncomputable def callF (g : FuncId) : CF := fun _ _ _ => False
noncomputable def L2 : K → Nat → St → Prop := mkL dec2 st2 0 0 [] Q2
noncomputable def loops : List (Nat × (List Nat × (K → Nat → St → Prop))) := [(2, (keep2, L2))]
noncomputable def C : Ctx := { ti := ti, meth := meth, can := can, pur := purOf purs, loops := fun i => seek loops i, gh := fun _ => [], xk := fun i => seek [(0, ([], 0))] i, rk := some ([4], 0) }
noncomputable def Round2 (x0 : (List D30)) (x1 : (List Int)) (x5 : Int) (N : St → Prop) (X : Nat → St → Prop) (R : St → Prop) : Prop :=
  (bif decide (x5 < (↑x1.length : Int)) then (((0 : Int) ≤ x5) ∧ ((x5 < (↑x1.length : Int)) ∧ (bif decide (x1.getD x5.toNat (0 : Int) < (0 : Int)) then R (s0 (false)) else (((0 : Int) ≤ x5) ∧ ((x5 < (↑x1.length : Int)) ∧ (bif decide (x1.getD x5.toNat (0 : Int) ≥ (↑x0.length : Int)) then R (s0 (false)) else (((0 : Int) ≤ x5) ∧ ((x5 ≤ (↑x1.length : Int)) ∧ (((0 : Int) ≤ x5) ∧ ((x5 < (↑x1.length : Int)) ∧ (((List.take x5.toNat x1).length ≤ LB) ∧ (bif (List.take x5.toNat x1).any fun (x : (Ty.int IntKind.i64).D) => x == x1.getD x5.toNat (0 : Int) then R (s0 (false)) else (((0 : Int) ≤ x5) ∧ ((x5 < (↑x1.length : Int)) ∧ (((0 : Int) ≤ x1.getD x5.toNat (0 : Int)) ∧ ((x1.getD x5.toNat (0 : Int) < (↑x0.length : Int)) ∧ (bif (x0.getD (Int.toNat (x1.getD x5.toNat (0 : Int))) d30).snd.snd.fst.fst == (5 : Int) then R (s0 (false)) else N (st2 (x0, x1, IntKind.i64.wrap (x5 + (1 : Int))))))))))))))))))))) else X 0 (s1))
theorem round2 (x0 : (List D30)) (x1 : (List Int)) (x5 : Int) (N : St → Prop) (X : Nat → St → Prop) (R : St → Prop) : exec C callF body2 ⟨0, [0], fun s' => cond (Nat.ble 0 s'.H.length) (N (scrub keep2 0 s')) False, X, R⟩ (st2 (x0, x1, x5)) = Round2 x0 x1 x5 N X R := by kernel_rfl
noncomputable def Main (calls : (List D30)) (order : (List Int)) (k : AV → Prop) : Prop :=
  (st2 (calls, order, (0 : Int)) = st2 (calls, order, (0 : Int)) ∧ (((0 : Int) ≤ (0 : Int)) ∧ (((0 : Int) ≤ (↑order.length : Int)) ∧ ((order.length ≤ LB) ∧ (bif lst calls (List.take (Int.toNat (0 : Int)) order) order then k (.v .bool (true)) else k (.v .bool (false)))))))
theorem main (calls : (List D30)) (order : (List Int)) (k : AV → Prop) : (runFn C callF Try.f35 [.v (.sl (.pair (.int .u8) (.pair (.int .u64) (.pair (.pair (.int .u8) (.pair (.int .u64) (.pair (.int .u64) (.pair (.sl (.int .u8)) (.pair (.sl (.int .u8)) (.pair .bool (.pair (.int .u8) .unit))))))) (.pair (.int .u8) (.pair (.sl (.int .u8)) (.pair (.int .i64) (.pair (.int .i64) .unit)))))))) calls, .v (.sl (.int .i64)) order] [] (fun r H => coRes H [.bool] r k)) = Main calls order k := by kernel_rfl
theorem loop2 (v : V2) (X : Nat → St → Prop) (R : St → Prop) : Q2 v X R → ∃ m, loopN C callF keep2 0 body2 ⟨0, [], fun _ => False, X, R⟩ m (st2 v) := by
  refine loop_ind (fun v => Q2 v X R) (fun v => v.2.1.length - v.2.2.toNat) ?_ v
  rintro ⟨cs, o, i⟩ ⟨h0, h1, h2, h4⟩ N hN
  rw [round2]
  obtain ⟨j, rfl⟩ : ∃ j : Nat, i = j := ⟨i.toNat, by omega⟩
  dsimp only at hN
  rw [Int.toNat_natCast] at h4
  have h2' : o.length ≤ 1073741824 := h2
  refine bif_d (fun hj => ⟨by omega, hj, ?_⟩) (fun hj => ?_)
  · have hn : j < o.length := by omega
    rw [lst_step hn] at h4
    rw [Int.toNat_natCast]
    have hl : (o.take j).length ≤ LB := by rw [List.length_take]; exact Nat.le_trans (Nat.min_le_right _ _) h2
    have bad : (okAt cs (o.getD j 0) && !((o.take j).any (· == o.getD j 0))) = false → R (s0 false) := fun e => by
      rw [e, Bool.false_and, cond_false] at h4; exact h4
    refine bif_d (fun ha => bad ?_) (fun ha => ⟨by omega, by omega, bif_d (fun hb => bad ?_) (fun hb => ⟨by omega, by omega, by omega, by omega, hl, bif_i (fun hc => bad ?_) (fun hc => ⟨by omega, by omega, by omega, by omega, bif_i (fun hd => bad ?_) (fun hd => ?_)⟩)⟩)⟩)
    · rw [okAt, decide_eq_false (by omega)]; rfl
    · rw [okAt, decide_eq_false (p := o.getD j 0 < cs.length) (by omega), Bool.and_false]; rfl
    · rw [hc]; simp
    · rw [okAt, hd]; simp
    · have e : (okAt cs (o.getD j 0) && !((o.take j).any (· == o.getD j 0))) = true := by
        rw [hc, okAt, hd, decide_eq_true (p := 0 ≤ o.getD j 0) (by omega), decide_eq_true (by omega)]; rfl
      rw [e, Bool.true_and] at h4
      rw [w64n (by omega)]
      exact hN _ ⟨by omega, by omega, h2, by rw [Int.toNat_natCast]; exact h4⟩ (by dsimp only; omega)
  · rw [List.drop_eq_nil_of_le (by omega)] at h4
    exact h4
theorem spec (cs : List D30) (o : List Int) (k : AV → Prop) (h : AllP [o.length ≤ LB]) (hk : k (.v .bool (lst cs [] o))) : Main cs o k := by
  refine ⟨rfl, by omega, by omega, h.1, ?_⟩
  show bif lst cs [] o then k _ else k _
  cases e : lst cs [] o <;> (rw [e] at hk; exact hk)
noncomputable def ts : List Ty := [(.sl T30), (.sl (.int .i64))]
noncomputable def G : List AV → PV := pg2 (.sl T30) (.sl (.int .i64)) (fun calls order => [order.length ≤ LB]) (fun calls order => .v .bool (lst calls [] order))
theorem loopsOK : LoopsOK C callF (bodyOf Try.f35) := loopsOK_seek (tbl := loops) (fun _ => rfl) (by kernel_rfl) (List.forall_mem_cons.2 ⟨mkL_ok loop2, fun _ h => nomatch h⟩)
theorem pursOK : ∀ g ts F, C.pur g = some (ts, F) → SoundP Try.prog g F := purOf_ok (l := purs) (List.forall_mem_cons.2 ⟨Go.Proofs.Ytdjdbjcapenjeaa.C.F38.ok, fun _ h => nomatch h⟩)
theorem cfsOK : ∀ g, SoundF Try.prog g (callF g) := fun g => soundF_none g
theorem ok : SoundP Try.prog 35 G := by
  unfold G
  refine soundP_pg2 (soundF_run (C := C) (callF := callF) (tabOK C rfl rfl rfl) cfsOK pursOK Try.func35 (by kernel_rfl) loopsOK) [.bool] fun calls order h => ?_
  rw [main]
  exact spec calls order _ h rfl
end F35
namespace F36
abbrev V2 := (List D30) × (List Int) × Int
noncomputable def st2 (v : V2) : St := ⟨[.v (.sl T30) (v.1), .v (.sl (.int .i64)) (v.2.1), .dead, .dead, .dead, .v (.int .i64) (v.2.2), .dead, .dead, .dead, .dead, .dead, .dead, .dead, .dead, .dead, .dead, .dead, .dead, .dead, .dead, .dead, .dead, .dead, .dead, .dead, .dead, .dead, .dead, .dead, .dead, .dead, .dead], []⟩
noncomputable def dec2 (s : St) : Option V2 := match gV (.sl T30) (s.T.getD 0 .dead), gV (.sl (.int .i64)) (s.T.getD 1 .dead), gV (.int .i64) (s.T.getD 5 .dead) with | some a0, some a1, some a5 => some (a0, a1, a5) | _, _, _ => none
noncomputable def keep2 : List Nat := [0, 1, 5]
noncomputable def body2 : Code := bodyAt (loopsOf (bodyOf Try.f36)) 2
noncomputable def s0 (x4 : Bool) : St := ⟨[.dead, .dead, .dead, .dead, .v .bool x4, .dead, .dead, .dead, .dead, .dead, .dead, .dead, .dead, .dead, .dead, .dead, .dead, .dead, .dead, .dead, .dead, .dead, .dead, .dead, .dead, .dead, .dead, .dead, .dead, .dead, .dead, .dead], []⟩
noncomputable def s1 : St := ⟨[.dead, .dead, .dead, .dead, .dead, .dead, .dead, .dead, .dead, .dead, .dead, .dead, .dead, .dead, .dead, .dead, .dead, .dead, .dead, .dead, .dead, .dead, .dead, .dead, .dead, .dead, .dead, .dead, .dead, .dead, .dead, .dead], []⟩
/-- Does a call that must stand in the order do so? -/
def inOr (cs : List D30) (o : List Int) (i : Nat) : Bool := !(A.F45.val (cs.getD i d30) && !((cs.getD i d30).2.2.1.1 == 5)) || o.any (· == (i : Int))
theorem range_cons {j n : Nat} (h : j < n) : List.range' j (n - j) = j :: List.range' (j + 1) (n - (j + 1)) := by
  rw [show n - j = (n - (j + 1)) + 1 by omega, List.range'_succ]
def Q2 : V2 → (Nat → St → Prop) → (St → Prop) → Prop := fun (cs, o, i) X R => 0 ≤ i ∧ i ≤ cs.length ∧ cs.length ≤ LB ∧ o.length ≤ LB ∧ bif (List.range' i.toNat (cs.length - i.toNat)).all (inOr cs o) then X 0 s1 else R (s0 false)
noncomputable def purs : List (Nat × (List Ty × (List AV → PV))) := [(38, (Go.Proofs.Ytdjdbjcapenjeaa.C.F38.ts, Go.Proofs.Ytdjdbjcapenjeaa.C.F38.G)), (45, (Go.Proofs.Ytdjdbjcapenjeaa.A.F45.ts, Go.Proofs.Ytdjdbjcapenjeaa.A.F45.G))]
noncomputable def callF (g : FuncId) : CF := fun _ _ _ => False
noncomputable def L2 : K → Nat → St → Prop := mkL dec2 st2 0 0 [] Q2
noncomputable def loops : List (Nat × (List Nat × (K → Nat → St → Prop))) := [(2, (keep2, L2))]
noncomputable def C : Ctx := { ti := ti, meth := meth, can := can, pur := purOf purs, loops := fun i => seek loops i, gh := fun _ => [], xk := fun i => seek [(0, ([], 0))] i, rk := some ([4], 0) }
noncomputable def Round2 (x0 : (List D30)) (x1 : (List Int)) (x5 : Int) (N : St → Prop) (X : Nat → St → Prop) (R : St → Prop) : Prop :=
  (bif decide (x5 < (↑x0.length : Int)) then (((0 : Int) ≤ x5) ∧ ((x5 < (↑x0.length : Int)) ∧ (bif A.F45.val (x0.getD x5.toNat d30) then (((0 : Int) ≤ x5) ∧ ((x5 < (↑x0.length : Int)) ∧ (bif (x0.getD x5.toNat d30).snd.snd.fst.fst != (5 : Int) then ((x1.length ≤ LB) ∧ (bif !x1.any fun (x : (Ty.int IntKind.i64).D) => x == x5 then R (s0 (false)) else N (st2 (x0, x1, IntKind.i64.wrap (x5 + (1 : Int)))))) else N (st2 (x0, x1, IntKind.i64.wrap (x5 + (1 : Int))))))) else N (st2 (x0, x1, IntKind.i64.wrap (x5 + (1 : Int))))))) else X 0 (s1))
theorem round2 (x0 : (List D30)) (x1 : (List Int)) (x5 : Int) (N : St → Prop) (X : Nat → St → Prop) (R : St → Prop) : exec C callF body2 ⟨0, [0], fun s' => cond (Nat.ble 0 s'.H.length) (N (scrub keep2 0 s')) False, X, R⟩ (st2 (x0, x1, x5)) = Round2 x0 x1 x5 N X R := by kernel_rfl
noncomputable def Main (calls : (List D30)) (order : (List Int)) (k : AV → Prop) : Prop :=
  (st2 (calls, order, (0 : Int)) = st2 (calls, order, (0 : Int)) ∧ (((0 : Int) ≤ (0 : Int)) ∧ (((0 : Int) ≤ (↑calls.length : Int)) ∧ ((calls.length ≤ LB) ∧ ((order.length ≤ LB) ∧ (bif (List.range' (Int.toNat (0 : Int)) (calls.length - Int.toNat (0 : Int))).all (inOr calls order) then k (.v .bool (true)) else k (.v .bool (false))))))))
theorem main (calls : (List D30)) (order : (List Int)) (k : AV → Prop) : (runFn C callF Try.f36 [.v (.sl (.pair (.int .u8) (.pair (.int .u64) (.pair (.pair (.int .u8) (.pair (.int .u64) (.pair (.int .u64) (.pair (.sl (.int .u8)) (.pair (.sl (.int .u8)) (.pair .bool (.pair (.int .u8) .unit))))))) (.pair (.int .u8) (.pair (.sl (.int .u8)) (.pair (.int .i64) (.pair (.int .i64) .unit)))))))) calls, .v (.sl (.int .i64)) order] [] (fun r H => coRes H [.bool] r k)) = Main calls order k := by kernel_rfl
theorem loop2 (v : V2) (X : Nat → St → Prop) (R : St → Prop) : Q2 v X R → ∃ m, loopN C callF keep2 0 body2 ⟨0, [], fun _ => False, X, R⟩ m (st2 v) := by
  refine loop_ind (fun v => Q2 v X R) (fun v => v.1.length - v.2.2.toNat) ?_ v
  rintro ⟨cs, o, i⟩ ⟨h0, h1, h2, h3, h4⟩ N hN
  rw [round2]
  obtain ⟨j, rfl⟩ : ∃ j : Nat, i = j := ⟨i.toNat, by omega⟩
  dsimp only at hN
  rw [Int.toNat_natCast] at h4
  have h2' : cs.length ≤ 1073741824 := h2
  refine bif_d (fun hj => ⟨by omega, hj, ?_⟩) (fun hj => ?_)
  · have hn : j < cs.length := by omega
    rw [range_cons hn, List.all_cons] at h4
    rw [Int.toNat_natCast, w64n (by omega)]
    have good : inOr cs o j = true → N (st2 (cs, o, ((j + 1 : Nat) : Int))) := fun e => by
      rw [e, Bool.true_and] at h4
      exact hN _ ⟨by omega, by omega, h2, h3, by rw [Int.toNat_natCast]; exact h4⟩ (by dsimp only; omega)
    refine bif_i (fun ha => ⟨by omega, by omega, bif_i (fun hb => ⟨h3, bif_i (fun hc => ?_) (fun hc => good ?_)⟩) (fun hb => good ?_)⟩) (fun ha => good ?_)
    · have e : inOr cs o j = false := by
        unfold inOr
        rw [ha, show ((cs.getD j d30).2.2.1.1 == 5) = false by simpa using hb, show o.any (· == (j : Int)) = false by simpa using hc]; rfl
      rw [e, Bool.false_and, cond_false] at h4
      exact h4
    · unfold inOr
      rw [show o.any (· == (j : Int)) = true by simpa using hc, Bool.or_true]
    · unfold inOr
      rw [show ((cs.getD j d30).2.2.1.1 == 5) = true by simpa using hb]; simp
    · unfold inOr
      rw [ha]; rfl
  · rw [show cs.length - j = 0 by omega] at h4
    exact h4
theorem spec (cs : List D30) (o : List Int) (k : AV → Prop) (h : AllP [cs.length ≤ LB, o.length ≤ LB]) (hk : k (.v .bool ((List.range' 0 cs.length).all (inOr cs o)))) : Main cs o k := by
  refine ⟨rfl, by omega, by omega, h.1, h.2.1, ?_⟩
  show bif (List.range' 0 cs.length).all (inOr cs o) then k _ else k _
  cases e : (List.range' 0 cs.length).all (inOr cs o) <;> (rw [e] at hk; exact hk)
noncomputable def ts : List Ty := [(.sl T30), (.sl (.int .i64))]
noncomputable def G : List AV → PV := pg2 (.sl T30) (.sl (.int .i64)) (fun calls order => [calls.length ≤ LB, order.length ≤ LB]) (fun calls order => .v .bool ((List.range' 0 calls.length).all (inOr calls order)))
theorem loopsOK : LoopsOK C callF (bodyOf Try.f36) := loopsOK_seek (tbl := loops) (fun _ => rfl) (by kernel_rfl) (List.forall_mem_cons.2 ⟨mkL_ok loop2, fun _ h => nomatch h⟩)
theorem pursOK : ∀ g ts F, C.pur g = some (ts, F) → SoundP Try.prog g F := purOf_ok (l := purs) (List.forall_mem_cons.2 ⟨Go.Proofs.Ytdjdbjcapenjeaa.C.F38.ok, List.forall_mem_cons.2 ⟨Go.Proofs.Ytdjdbjcapenjeaa.A.F45.ok, fun _ h => nomatch h⟩⟩)
theorem cfsOK : ∀ g, SoundF Try.prog g (callF g) := fun g => soundF_none g
theorem ok : SoundP Try.prog 36 G := by
  unfold G
  refine soundP_pg2 (soundF_run (C := C) (callF := callF) (tabOK C rfl rfl rfl) cfsOK pursOK Try.func36 (by kernel_rfl) loopsOK) [.bool] fun calls order h => ?_
  rw [main]
  exact spec calls order _ h rfl
end F36

end Go.Proofs.Ytdjdbjcapenjeaa.D
