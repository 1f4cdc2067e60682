/- the document's table: what it asks -/
import Derived.Test.YtdjdbjcapenjeaaDxTab
import Derived.Test.YtdjdbjcapenjeaaDx3
import Derived.Test.YtdjdbjcapenjeaaDxTy
import Derived.Test.YtdjdbjcapenjeaaKD
import Derived.Test.YtdjdbjcapenjeaaA
import Derived.Test.YtdjdbjcapenjeaaB
set_option linter.unusedVariables false
set_option maxRecDepth 100000
open Go Go.Proofs Go.Proofs.Ytdjdbjcapenjeaa.Dx Go.Proofs.Ytdjdbjcapenjeaa.Dx.TYtdjdbjcapenjeaa
namespace Go.Proofs.Ytdjdbjcapenjeaa.KE
abbrev bt (set i : Int) : Int := IntKind.i64.wrap ((BitVec.ofInt IntKind.i64.bits (set.fdiv ((2 : Int) ^ min i.toNat IntKind.i64.bits)) &&& BitVec.ofInt IntKind.i64.bits 1).toNat : Int)
theorem range_cons {j n : Nat} (h : j < n) : List.range' j (n - j) = j :: List.range' (j + 1) (n - (j + 1)) := by
  rw [show n - j = (n - (j + 1)) + 1 by omega, List.range'_succ]
namespace F57
abbrev V2 := D103 × Int × Int
noncomputable def st2 (v : V2) : St := ⟨[.v (.ptr T103) (v.1), .v (.int .i64) (v.2.1), .dead, .dead, .dead, .v (.int .i64) (v.2.2), .dead, .dead, .dead, .dead, .dead, .dead, .dead, .dead, .dead, .dead, .dead, .dead, .dead, .dead, .dead, .dead, .dead, .dead, .dead, .dead, .dead, .dead, .dead, .dead], []⟩
noncomputable def dec2 (s : St) : Option V2 := match gV (.ptr T103) (s.T.getD 0 .dead), gV (.int .i64) (s.T.getD 1 .dead), gV (.int .i64) (s.T.getD 5 .dead) with | some a0, some a1, some a5 => some (a0, a1, a5) | _, _, _ => none
noncomputable def keep2 : List Nat := [0, 1, 5]
noncomputable def body2 : Code := bodyAt (loopsOf (bodyOf Try.f57)) 2
noncomputable def s0 (x4 : Bool) : St := ⟨[.dead, .dead, .dead, .dead, .v .bool x4, .dead, .dead, .dead, .dead, .dead, .dead, .dead, .dead, .dead, .dead, .dead, .dead, .dead, .dead, .dead, .dead, .dead, .dead, .dead, .dead, .dead, .dead, .dead, .dead, .dead], []⟩
noncomputable def s1 : St := ⟨[.dead, .dead, .dead, .dead, .dead, .dead, .dead, .dead, .dead, .dead, .dead, .dead, .dead, .dead, .dead, .dead, .dead, .dead, .dead, .dead, .dead, .dead, .dead, .dead, .dead, .dead, .dead, .dead, .dead, .dead], []⟩
def cmp (cs : List D30) (set : Int) (i : Nat) : Bool := !(A.F45.val (cs.getD i d30) && (bt set i == 0))
def Q2 : V2 → (Nat → St → Prop) → (St → Prop) → Prop := fun (t, set, i) X R => 0 ≤ i ∧ i ≤ t.1.length ∧ t.1.length ≤ LB ∧ bif (List.range' i.toNat (t.1.length - i.toNat)).all (cmp t.1 set) then X 0 s1 else R (s0 false)
noncomputable def purs : List (Nat × (List Ty × (List AV → PV))) := [(45, (Go.Proofs.Ytdjdbjcapenjeaa.A.F45.ts, Go.Proofs.Ytdjdbjcapenjeaa.A.F45.G))]
noncomputable def callF (g : FuncId) : CF := fun _ _ _ => False
noncomputable def L2 : K → Nat → St → Prop := mkL dec2 st2 0 0 [] Q2
noncomputable def loops : List (Nat × (List Nat × (K → Nat → St → Prop))) := [(2, (keep2, L2))]
noncomputable def C : Ctx := { ti := ti, meth := meth, can := can, pur := purOf purs, loops := fun i => seek loops i, gh := fun _ => [], xk := fun i => seek [(0, ([], 0))] i, rk := some ([4], 0) }
noncomputable def Round2 (x0 : D103) (x1 : Int) (x5 : Int) (N : St → Prop) (X : Nat → St → Prop) (R : St → Prop) : Prop :=
  (bif decide (x5 < (↑(List.length x0.fst) : Int)) then (((0 : Int) ≤ x5) ∧ ((x5 < (↑(List.length x0.fst) : Int)) ∧ (bif A.F45.val (List.getD x0.fst x5.toNat d30) then (((0 : Int) ≤ x5) ∧ (bif IntKind.i64.wrap (↑(BitVec.ofInt IntKind.i64.bits (x1.fdiv ((2 : Int) ^ min x5.toNat IntKind.i64.bits)) &&& BitVec.ofInt IntKind.i64.bits (1 : Int)).toNat : Int) == (0 : Int) then R (s0 (false)) else N (st2 (x0, x1, IntKind.i64.wrap (x5 + (1 : Int)))))) else N (st2 (x0, x1, IntKind.i64.wrap (x5 + (1 : Int))))))) else X 0 (s1))
theorem round2 (x0 : D103) (x1 : Int) (x5 : Int) (N : St → Prop) (X : Nat → St → Prop) (R : St → Prop) : exec C callF body2 ⟨0, [0], fun s' => cond (Nat.ble 0 s'.H.length) (N (scrub keep2 0 s')) False, X, R⟩ (st2 (x0, x1, x5)) = Round2 x0 x1 x5 N X R := by kernel_rfl
noncomputable def Main (t : D103) (set : Int) (k : AV → Prop) : Prop :=
  (st2 (t, set, (0 : Int)) = st2 (t, set, (0 : Int)) ∧ (((0 : Int) ≤ (0 : Int)) ∧ (((0 : Int) ≤ (↑t.fst.length : Int)) ∧ ((t.fst.length ≤ LB) ∧ (bif (List.range' (Int.toNat (0 : Int)) (t.fst.length - Int.toNat (0 : Int))).all (cmp t.fst set) then k (.v .bool (true)) else k (.v .bool (false)))))))
theorem main (t : D103) (set : Int) (k : AV → Prop) : (runFn C callF Try.f57 [.v (.ptr (.pair (.sl (.pair (.int .u8) (.pair (.int .u64) (.pair (.pair (.int .u8) (.pair (.int .u64) (.pair (.int .u64) (.pair (.sl (.int .u8)) (.pair (.sl (.int .u8)) (.pair .bool (.pair (.int .u8) .unit))))))) (.pair (.int .u8) (.pair (.sl (.int .u8)) (.pair (.int .i64) (.pair (.int .i64) .unit)))))))) (.pair (.sl (.int .u8)) .unit))) t, .v (.int .i64) set] [] (fun r H => coRes H [.bool] r k)) = Main t set k := by kernel_rfl
theorem loop2 (v : V2) (X : Nat → St → Prop) (R : St → Prop) : Q2 v X R → ∃ m, loopN C callF keep2 0 body2 ⟨0, [], fun _ => False, X, R⟩ m (st2 v) := by
  refine loop_ind (fun v => Q2 v X R) (fun (t, set, i) => t.1.length - i.toNat) ?_ v
  rintro ⟨t, set, i⟩ ⟨h0, h1, h2, h4⟩ N hN
  rw [round2]
  obtain ⟨j, rfl⟩ : ∃ a : Nat, i = a := ⟨i.toNat, by omega⟩
  dsimp only at hN
  rw [Int.toNat_natCast] at h4
  have h2' : t.1.length ≤ 1073741824 := h2
  refine bif_d (fun hj => ?_) (fun hj => ?_)
  · have hn : j < t.1.length := by omega
    rw [range_cons hn, List.all_cons, cmp] at h4
    rw [w64n (by omega)]
    have next : (bif (List.range' (j + 1) (t.1.length - (j + 1))).all (cmp t.1 set) then X 0 s1 else R (s0 false)) → N (st2 (t, set, ((j + 1 : Nat) : Int))) := fun h4 =>
      hN (t, set, ((j + 1 : Nat) : Int)) ⟨by omega, by omega, h2, by rw [Int.toNat_natCast]; exact h4⟩ (by dsimp only; omega)
    refine ⟨by omega, by omega, bif_i (fun e => ⟨by omega, bif_i (fun e2 => ?_) (fun e2 => ?_)⟩) (fun e => ?_)⟩
    · rw [show A.F45.val (t.1.getD j d30) = true from e, show (bt set (j : Int) == 0) = true from e2, Bool.true_and, Bool.not_true, Bool.false_and, cond_false] at h4
      exact h4
    · rw [show A.F45.val (t.1.getD j d30) = true from e, show (bt set (j : Int) == 0) = false from e2, Bool.true_and, Bool.not_false, Bool.true_and] at h4
      exact next h4
    · rw [show A.F45.val (t.1.getD j d30) = false from e, Bool.false_and, Bool.not_false, Bool.true_and] at h4
      exact next h4
  · rw [show t.1.length - j = 0 by omega, show List.range' j 0 = [] from rfl, List.all_nil, cond_true] at h4
    exact h4
def Pre (t : D103) (set : Int) : Prop := t.1.length ≤ LB
def val (t : D103) (set : Int) : Bool := (List.range' 0 t.1.length).all (cmp t.1 set)
theorem spec (t : D103) (set : Int) (k : AV → Prop) (h : AllP [Pre t set]) (hk : k (.v .bool (val t set))) : Main t set k := by
  unfold val at hk
  refine ⟨rfl, Int.le_refl 0, by omega, h.1, bif_i (fun e => ?_) (fun e => ?_)⟩
  · rw [show (List.range' 0 t.1.length).all (cmp t.1 set) = true from e] at hk; exact hk
  · rw [show (List.range' 0 t.1.length).all (cmp t.1 set) = false from e] at hk; exact hk
noncomputable def ts : List Ty := [(.ptr T103), (.int .i64)]
noncomputable def G : List AV → PV := pg2 (.ptr T103) (.int .i64) (fun t set => [Pre t set]) (fun t set => .v .bool (val t set))
theorem loopsOK : LoopsOK C callF (bodyOf Try.f57) := loopsOK_seek (tbl := loops) (fun _ => rfl) (by kernel_rfl) (List.forall_mem_cons.2 ⟨mkL_ok loop2, fun _ h => nomatch h⟩)
theorem pursOK : ∀ g ts F, C.pur g = some (ts, F) → SoundP Try.prog g F := purOf_ok (l := purs) (List.forall_mem_cons.2 ⟨Go.Proofs.Ytdjdbjcapenjeaa.A.F45.ok, fun _ h => nomatch h⟩)
theorem cfsOK : ∀ g, SoundF Try.prog g (callF g) := fun g => soundF_none g
theorem ok : SoundP Try.prog 57 G := by
  unfold G
  refine soundP_pg2 (soundF_run (C := C) (callF := callF) (tabOK C rfl rfl rfl) cfsOK pursOK Try.func57 (by kernel_rfl) loopsOK) [.bool] fun t set h => ?_
  rw [main]
  exact spec t set _ h rfl
end F57
namespace F64
abbrev V4 := (List D30) × Int × D60
noncomputable def st4 (v : V4) : St := ⟨[.v (.sl T30) (v.1), .dead, .dead, .v .ref (.ptr 0 []), .dead, .v (.int .i64) (v.2.1), .dead, .dead, .dead, .dead, .dead, .dead, .dead, .dead, .dead, .dead, .dead, .dead, .dead, .dead, .dead, .dead, .dead, .dead, .dead, .dead], [.var T60 (v.2.2) 60]⟩
noncomputable def dec4 (s : St) : Option V4 := match gV (.sl T30) (s.T.getD 0 .dead), gV (.int .i64) (s.T.getD 5 .dead), gVar T60 s.H[0]? with | some a0, some a5, some b0 => some (a0, a5, b0) | _, _, _ => none
noncomputable def keep4 : List Nat := [0, 3, 5]
noncomputable def body4 : Code := bodyAt (loopsOf (bodyOf Try.f64)) 4
noncomputable def s0 (x4 : Int) : St := ⟨[.dead, .dead, .dead, .dead, .v (.int .i64) x4, .dead, .dead, .dead, .dead, .dead, .dead, .dead, .dead, .dead, .dead, .dead, .dead, .dead, .dead, .dead, .dead, .dead, .dead, .dead, .dead, .dead], []⟩
noncomputable def s1 (h0 : D60) : St := ⟨[.dead, .dead, .dead, .dead, .dead, .dead, .dead, .dead, .dead, .dead, .dead, .dead, .dead, .dead, .dead, .dead, .dead, .dead, .dead, .dead, .dead, .dead, .dead, .dead, .dead, .dead], [.var T60 h0 60]⟩
def stF (v : List Int) : List D30 → Int → Int
  | [], _ => 0
  | c :: r, k => bif B.F47.val c.2.2.1.2.2.2.1 v then k + 1 else stF v r (k + 1)
theorem stF_none (v : List Int) : ∀ (l : List D30) (k : Int), l.any (fun c => B.F47.val c.2.2.1.2.2.2.1 v) = false → stF v l k = 0
  | [], _, _ => rfl
  | c :: r, k, h => by
    rw [List.any_cons, Bool.or_eq_false_iff] at h
    rw [stF, h.1, cond_false, stF_none v r _ h.2]
def Q4 : V4 → (Nat → St → Prop) → (St → Prop) → Prop := fun (cs, i, h) X R => 0 ≤ i ∧ i ≤ cs.length ∧ cs.length ≤ LB ∧ (∀ c ∈ cs, c.2.2.1.2.2.2.1.length ≤ LB) ∧
  bif (cs.drop i.toNat).any (fun c => B.F47.val c.2.2.1.2.2.2.1 h.2.1) then R (s0 (stF h.2.1 (cs.drop i.toNat) i)) else X 0 (s1 h)
noncomputable def purs : List (Nat × (List Ty × (List AV → PV))) := [(47, (Go.Proofs.Ytdjdbjcapenjeaa.B.F47.ts, Go.Proofs.Ytdjdbjcapenjeaa.B.F47.G))]
noncomputable def callF (g : FuncId) : CF := fun _ _ _ => False
noncomputable def L4 : K → Nat → St → Prop := mkL dec4 st4 0 1 [] Q4
noncomputable def loops : List (Nat × (List Nat × (K → Nat → St → Prop))) := [(4, (keep4, L4))]
noncomputable def C : Ctx := { ti := ti, meth := meth, can := can, pur := purOf purs, loops := fun i => seek loops i, gh := fun _ => [], xk := fun i => seek [(0, ([], 0))] i, rk := some ([4], 0) }
noncomputable def Round4 (x0 : (List D30)) (x5 : Int) (h0 : D60) (N : St → Prop) (X : Nat → St → Prop) (R : St → Prop) : Prop :=
  (bif decide (x5 < (↑x0.length : Int)) then (((0 : Int) ≤ x5) ∧ ((x5 < (↑x0.length : Int)) ∧ ((List.length (x0.getD x5.toNat d30).snd.snd.fst.snd.snd.snd.fst ≤ LB) ∧ (bif B.F47.val (x0.getD x5.toNat d30).snd.snd.fst.snd.snd.snd.fst h0.snd.fst then R (s0 (IntKind.i64.wrap (x5 + (1 : Int)))) else N (st4 (x0, IntKind.i64.wrap (x5 + (1 : Int)), h0)))))) else X 0 (s1 (h0)))
theorem round4 (x0 : (List D30)) (x5 : Int) (h0 : D60) (N : St → Prop) (X : Nat → St → Prop) (R : St → Prop) : exec C callF body4 ⟨0, [1], fun s' => cond (Nat.ble 1 s'.H.length) (N (scrub keep4 1 s')) False, X, R⟩ (st4 (x0, x5, h0)) = Round4 x0 x5 h0 N X R := by kernel_rfl
noncomputable def Main (calls : (List D30)) (x : D60) (k : AV → Prop) : Prop :=
  (bif !x.fst then k (.v (.int .i64) ((0 : Int))) else (st4 (calls, (0 : Int), x) = st4 (calls, (0 : Int), x) ∧ (((0 : Int) ≤ (0 : Int)) ∧ (((0 : Int) ≤ (↑calls.length : Int)) ∧ ((calls.length ≤ LB) ∧ ((∀ (c : D30), c ∈ calls → c.snd.snd.fst.snd.snd.snd.fst.length ≤ LB) ∧ (bif calls.any fun (c : D30) => B.F47.val c.snd.snd.fst.snd.snd.snd.fst x.snd.fst then k (.v (.int .i64) (stF x.snd.fst calls (0 : Int))) else k (.v (.int .i64) ((0 : Int))))))))))
theorem main (calls : (List D30)) (x : D60) (k : AV → Prop) : (runFn C callF Try.f64 [.v (.sl (.pair (.int .u8) (.pair (.int .u64) (.pair (.pair (.int .u8) (.pair (.int .u64) (.pair (.int .u64) (.pair (.sl (.int .u8)) (.pair (.sl (.int .u8)) (.pair .bool (.pair (.int .u8) .unit))))))) (.pair (.int .u8) (.pair (.sl (.int .u8)) (.pair (.int .i64) (.pair (.int .i64) .unit)))))))) calls, .v (.pair .bool (.pair (.sl (.int .u8)) .unit)) x] [] (fun r H => coRes H [(.int .i64)] r k)) = Main calls x k := by kernel_rfl
theorem loop4 (v : V4) (X : Nat → St → Prop) (R : St → Prop) : Q4 v X R → ∃ m, loopN C callF keep4 1 body4 ⟨0, [], fun _ => False, X, R⟩ m (st4 v) := by
  refine loop_ind (fun v => Q4 v X R) (fun (cs, i, h) => cs.length - i.toNat) ?_ v
  rintro ⟨cs, i, h⟩ ⟨h0, h1, h2, h3, h4⟩ N hN
  rw [round4]
  obtain ⟨j, rfl⟩ : ∃ a : Nat, i = a := ⟨i.toNat, by omega⟩
  dsimp only at hN
  rw [Int.toNat_natCast] at h4
  have h2' : cs.length ≤ 1073741824 := h2
  refine bif_d (fun hj => ?_) (fun hj => ?_)
  · have hn : j < cs.length := by omega
    rw [drop_cons hn d30, List.any_cons, stF] at h4
    have hm : cs.getD j d30 ∈ cs := by rw [List.getD_eq_getElem?_getD, List.getElem?_eq_getElem hn]; exact List.getElem_mem hn
    rw [Int.toNat_natCast, w64n (by omega)]
    refine ⟨by omega, by omega, h3 _ hm, bif_i (fun e => ?_) (fun e => ?_)⟩
    · rw [e, Bool.true_or, cond_true, cond_true] at h4
      rw [Int.natCast_add]; exact h4
    · rw [e, Bool.false_or, cond_false] at h4
      exact hN (cs, ((j + 1 : Nat) : Int), h) ⟨by omega, by omega, h2, h3, by rw [Int.toNat_natCast, Int.natCast_add]; exact h4⟩ (by dsimp only; omega)
  · rw [List.drop_eq_nil_of_le (by omega), List.any_nil, cond_false] at h4
    exact h4
def Pre (calls : List D30) (x : D60) : Prop := calls.length ≤ LB ∧ ∀ c ∈ calls, c.2.2.1.2.2.2.1.length ≤ LB
def val (calls : List D30) (x : D60) : Int := bif x.1 then stF x.2.1 calls 0 else 0
theorem spec (calls : List D30) (x : D60) (k : AV → Prop) (h : AllP [Pre calls x]) (hk : k (.v (.int .i64) (val calls x))) : Main calls x k := by
  obtain ⟨⟨h1, h2⟩, _⟩ := h
  unfold val at hk
  refine bif_i (fun e => ?_) (fun e => ⟨rfl, Int.le_refl 0, by omega, h1, h2, bif_i (fun e2 => ?_) (fun e2 => ?_)⟩)
  · rw [show x.1 = false by simpa using e, cond_false] at hk; exact hk
  · rw [show x.1 = true by simpa using e, cond_true] at hk; exact hk
  · rw [show x.1 = true by simpa using e, cond_true, stF_none _ _ _ e2] at hk; exact hk
noncomputable def ts : List Ty := [(.sl T30), T60]
noncomputable def G : List AV → PV := pg2 (.sl T30) T60 (fun calls x => [Pre calls x]) (fun calls x => .v (.int .i64) (val calls x))
theorem loopsOK : LoopsOK C callF (bodyOf Try.f64) := loopsOK_seek (tbl := loops) (fun _ => rfl) (by kernel_rfl) (List.forall_mem_cons.2 ⟨mkL_ok loop4, fun _ h => nomatch h⟩)
theorem pursOK : ∀ g ts F, C.pur g = some (ts, F) → SoundP Try.prog g F := purOf_ok (l := purs) (List.forall_mem_cons.2 ⟨Go.Proofs.Ytdjdbjcapenjeaa.B.F47.ok, fun _ h => nomatch h⟩)
theorem cfsOK : ∀ g, SoundF Try.prog g (callF g) := fun g => soundF_none g
theorem ok : SoundP Try.prog 64 G := by
  unfold G
  refine soundP_pg2 (soundF_run (C := C) (callF := callF) (tabOK C rfl rfl rfl) cfsOK pursOK Try.func64 (by kernel_rfl) loopsOK) [(.int .i64)] fun calls x h => ?_
  rw [main]
  exact spec calls x _ h rfl
end F64
namespace F63
noncomputable def purs : List (Nat × (List Ty × (List AV → PV))) := []
noncomputable def callF (g : FuncId) : CF := fun _ _ _ => False
noncomputable def loops : List (Nat × (List Nat × (K → Nat → St → Prop))) := []
noncomputable def C : Ctx := { ti := ti, meth := meth, can := can, pur := purOf purs, loops := fun i => seek loops i, gh := fun _ => [] }
noncomputable def Main (t : D103) (s : Int) (k : AV → Prop) : Prop :=
  (bif s == (0 : Int) then k (.v T60 ((false), (([]), ()))) else (((0 : Int) ≤ IntKind.i64.wrap (s - (1 : Int))) ∧ ((IntKind.i64.wrap (s - (1 : Int)) < (↑(List.length t.fst) : Int)) ∧ k (.v T60 ((true), (((List.getD t.fst (IntKind.i64.wrap (s - (1 : Int))).toNat d30).snd.snd.fst.snd.snd.snd.fst), ()))))))
theorem main (t : D103) (s : Int) (k : AV → Prop) : (runFn C callF Try.f63 [.v (.ptr (.pair (.sl (.pair (.int .u8) (.pair (.int .u64) (.pair (.pair (.int .u8) (.pair (.int .u64) (.pair (.int .u64) (.pair (.sl (.int .u8)) (.pair (.sl (.int .u8)) (.pair .bool (.pair (.int .u8) .unit))))))) (.pair (.int .u8) (.pair (.sl (.int .u8)) (.pair (.int .i64) (.pair (.int .i64) .unit)))))))) (.pair (.sl (.int .u8)) .unit))) t, .v (.int .i64) s] [] (fun r H => coRes H [(.pair .bool (.pair (.sl (.int .u8)) .unit))] r k)) = Main t s k := by kernel_rfl
def val (t : D103) (s : Int) : D60 :=
  (bif s == (0 : Int) then ((false), (([]), ())) else ((true), (((List.getD t.fst (IntKind.i64.wrap (s - (1 : Int))).toNat d30).snd.snd.fst.snd.snd.snd.fst), ())))
def Pre (t : D103) (s : Int) : Prop :=
  (bif s == (0 : Int) then True else (((0 : Int) ≤ IntKind.i64.wrap (s - (1 : Int))) ∧ (IntKind.i64.wrap (s - (1 : Int)) < (↑(List.length t.fst) : Int))))
def valAV (x : D60) : AV := .v T60 x
theorem spec (t : D103) (s : Int) (k : AV → Prop) (h : AllP [Pre t s]) (hk : k (.v T60 (val t s))) : Main t s k := ((bif_PV (K := fun x => k (valAV x)) (fun _ h => h) (and_p (K := fun x => k (valAV x)) (and_t (K := fun x => k (valAV x)) (fun _ h => h)))) : Pre t s → (fun x => k (valAV x)) (val t s) → Main t s k) h.1 hk
noncomputable def ts : List Ty := [(.ptr T103), (.int .i64)]
noncomputable def G : List AV → PV := pg2 (.ptr T103) (.int .i64) (fun t s => [Pre t s]) (fun t s => .v T60 (val t s))
theorem loopsOK : LoopsOK C callF (bodyOf Try.f63) := loopsOK_seek (tbl := loops) (fun _ => rfl) (by kernel_rfl) (fun _ h => nomatch h)
theorem pursOK : ∀ g ts F, C.pur g = some (ts, F) → SoundP Try.prog g F := purOf_ok (l := purs) (fun _ h => nomatch h)
theorem cfsOK : ∀ g, SoundF Try.prog g (callF g) := fun g => soundF_none g
theorem ok : SoundP Try.prog 63 G := by
  unfold G
  refine soundP_pg2 (soundF_run (C := C) (callF := callF) (tabOK C rfl rfl rfl) cfsOK pursOK Try.func63 (by kernel_rfl) loopsOK) [T60] fun t s h => ?_
  rw [main]
  exact spec t s _ h rfl
end F63
namespace F58
abbrev V4 := D103 × Int × Int × Int × Int
noncomputable def st4 (v : V4) : St := ⟨[.v (.ptr T103) (v.1), .v (.int .i64) (v.2.1), .v (.int .i64) (v.2.2.1), .v (.int .i64) (v.2.2.2.1), .dead, .dead, .dead, .dead, .dead, .dead, .v (.int .i64) (v.2.2.2.2), .dead, .dead, .dead, .dead, .dead, .dead, .dead, .dead, .dead, .dead, .dead, .dead, .dead, .dead, .dead, .dead, .dead, .dead, .dead, .dead, .dead, .dead, .dead, .dead, .dead, .dead, .dead, .dead, .dead, .dead, .dead, .dead, .dead, .dead, .dead, .dead, .dead, .dead, .dead, .dead, .dead, .dead, .dead, .dead, .dead, .dead, .dead, .dead, .dead, .dead, .dead, .dead, .dead, .dead, .dead, .dead, .dead, .dead, .dead], []⟩
noncomputable def dec4 (s : St) : Option V4 := match gV (.ptr T103) (s.T.getD 0 .dead), gV (.int .i64) (s.T.getD 1 .dead), gV (.int .i64) (s.T.getD 2 .dead), gV (.int .i64) (s.T.getD 3 .dead), gV (.int .i64) (s.T.getD 10 .dead) with | some a0, some a1, some a2, some a3, some a10 => some (a0, a1, a2, a3, a10) | _, _, _, _, _ => none
noncomputable def keep4 : List Nat := [0, 1, 2, 3, 10]
noncomputable def body4 : Code := bodyAt (loopsOf (bodyOf Try.f58)) 4
noncomputable def s0 (x8 : Bool) (x9 : Int) : St := ⟨[.dead, .dead, .dead, .dead, .dead, .dead, .dead, .dead, .v .bool x8, .v (.int .i64) x9, .dead, .dead, .dead, .dead, .dead, .dead, .dead, .dead, .dead, .dead, .dead, .dead, .dead, .dead, .dead, .dead, .dead, .dead, .dead, .dead, .dead, .dead, .dead, .dead, .dead, .dead, .dead, .dead, .dead, .dead, .dead, .dead, .dead, .dead, .dead, .dead, .dead, .dead, .dead, .dead, .dead, .dead, .dead, .dead, .dead, .dead, .dead, .dead, .dead, .dead, .dead, .dead, .dead, .dead, .dead, .dead, .dead, .dead, .dead, .dead], []⟩
noncomputable def s1 (x0 : D103) (x2 : Int) (x3 : Int) : St := ⟨[.v (.ptr T103) x0, .dead, .v (.int .i64) x2, .v (.int .i64) x3, .dead, .dead, .dead, .dead, .dead, .dead, .dead, .dead, .dead, .dead, .dead, .dead, .dead, .dead, .dead, .dead, .dead, .dead, .dead, .dead, .dead, .dead, .dead, .dead, .dead, .dead, .dead, .dead, .dead, .dead, .dead, .dead, .dead, .dead, .dead, .dead, .dead, .dead, .dead, .dead, .dead, .dead, .dead, .dead, .dead, .dead, .dead, .dead, .dead, .dead, .dead, .dead, .dead, .dead, .dead, .dead, .dead, .dead, .dead, .dead, .dead, .dead, .dead, .dead, .dead, .dead], []⟩
def nx (cs : List D30) (set i : Int) (j : Nat) : Bool := !((bt set j == 0) && A.F42.val (cs.getD j d30) (cs.getD i.toNat d30))
def Q4 : V4 → (Nat → St → Prop) → (St → Prop) → Prop := fun (t, set, s, i, j) X R => 0 ≤ j ∧ j ≤ t.1.length ∧ t.1.length ≤ LB ∧ 0 ≤ i ∧ i < t.1.length ∧
  bif (List.range' j.toNat (t.1.length - j.toNat)).all (nx t.1 set i) then X 0 (s1 t s i) else R (s0 false 0)
noncomputable def purs : List (Nat × (List Ty × (List AV → PV))) := [(26, (Go.Proofs.Ytdjdbjcapenjeaa.B.F26.ts, Go.Proofs.Ytdjdbjcapenjeaa.B.F26.G)), (42, (Go.Proofs.Ytdjdbjcapenjeaa.A.F42.ts, Go.Proofs.Ytdjdbjcapenjeaa.A.F42.G)), (63, (Go.Proofs.Ytdjdbjcapenjeaa.KE.F63.ts, Go.Proofs.Ytdjdbjcapenjeaa.KE.F63.G)), (64, (Go.Proofs.Ytdjdbjcapenjeaa.KE.F64.ts, Go.Proofs.Ytdjdbjcapenjeaa.KE.F64.G))]
noncomputable def callF (g : FuncId) : CF := fun _ _ _ => False
noncomputable def L4 : K → Nat → St → Prop := mkL dec4 st4 0 0 [] Q4
noncomputable def loops : List (Nat × (List Nat × (K → Nat → St → Prop))) := [(4, (keep4, L4))]
noncomputable def C : Ctx := { ti := ti, meth := meth, can := can, pur := purOf purs, loops := fun i => seek loops i, gh := fun _ => [], xk := fun i => seek [(0, ([0, 2, 3], 0))] i, rk := some ([8, 9], 0) }
noncomputable def Round4 (x0 : D103) (x1 : Int) (x2 : Int) (x3 : Int) (x10 : Int) (N : St → Prop) (X : Nat → St → Prop) (R : St → Prop) : Prop :=
  (bif decide (x10 < (↑(List.length x0.fst) : Int)) then (((0 : Int) ≤ x10) ∧ (bif IntKind.i64.wrap (↑(BitVec.ofInt IntKind.i64.bits (x1.fdiv ((2 : Int) ^ min x10.toNat IntKind.i64.bits)) &&& BitVec.ofInt IntKind.i64.bits (1 : Int)).toNat : Int) == (0 : Int) then (((0 : Int) ≤ x10) ∧ ((x10 < (↑(List.length x0.fst) : Int)) ∧ (((0 : Int) ≤ x3) ∧ ((x3 < (↑(List.length x0.fst) : Int)) ∧ (bif A.F42.val (List.getD x0.fst x10.toNat d30) (List.getD x0.fst x3.toNat d30) then R (s0 (false) ((0 : Int))) else N (st4 (x0, x1, x2, x3, IntKind.i64.wrap (x10 + (1 : Int))))))))) else N (st4 (x0, x1, x2, x3, IntKind.i64.wrap (x10 + (1 : Int)))))) else X 0 (s1 (x0) (x2) (x3)))
theorem round4 (x0 : D103) (x1 : Int) (x2 : Int) (x3 : Int) (x10 : Int) (N : St → Prop) (X : Nat → St → Prop) (R : St → Prop) : exec C callF body4 ⟨0, [0], fun s' => cond (Nat.ble 0 s'.H.length) (N (scrub keep4 0 s')) False, X, R⟩ (st4 (x0, x1, x2, x3, x10)) = Round4 x0 x1 x2 x3 x10 N X R := by kernel_rfl
noncomputable def Main (t : D103) (set : Int) (s : Int) (i : Int) (k : AV → Prop) : Prop :=
  (((0 : Int) ≤ i) ∧ (bif IntKind.i64.wrap (↑(BitVec.ofInt IntKind.i64.bits (set.fdiv ((2 : Int) ^ min i.toNat IntKind.i64.bits)) &&& BitVec.ofInt IntKind.i64.bits (1 : Int)).toNat : Int) == (1 : Int) then k (.tup [⟨.bool, (false)⟩, ⟨(.int .i64), ((0 : Int))⟩]) else (st4 (t, set, s, i, (0 : Int)) = st4 (t, set, s, i, (0 : Int)) ∧ (((0 : Int) ≤ (0 : Int)) ∧ (((0 : Int) ≤ (↑t.fst.length : Int)) ∧ ((t.fst.length ≤ LB) ∧ (((0 : Int) ≤ i) ∧ ((i < (↑t.fst.length : Int)) ∧ (bif (List.range' (Int.toNat (0 : Int)) (t.fst.length - Int.toNat (0 : Int))).all (nx t.fst set i) then (((0 : Int) ≤ i) ∧ ((i < (↑(List.length t.fst) : Int)) ∧ ((F63.Pre t s) ∧ ((B.F26.Pre (List.getD t.fst i.toNat d30) (F63.val t s)) ∧ ((F64.Pre t.fst (B.F26.val (List.getD t.fst i.toNat d30) (F63.val t s)).snd) ∧ k (.tup [⟨.bool, ((B.F26.val (List.getD t.fst i.toNat d30) (F63.val t s)).fst)⟩, ⟨(.int .i64), (F64.val t.fst (B.F26.val (List.getD t.fst i.toNat d30) (F63.val t s)).snd)⟩])))))) else k (.tup [⟨.bool, (false)⟩, ⟨(.int .i64), ((0 : Int))⟩]))))))))))
theorem main (t : D103) (set : Int) (s : Int) (i : Int) (k : AV → Prop) : (runFn C callF Try.f58 [.v (.ptr (.pair (.sl (.pair (.int .u8) (.pair (.int .u64) (.pair (.pair (.int .u8) (.pair (.int .u64) (.pair (.int .u64) (.pair (.sl (.int .u8)) (.pair (.sl (.int .u8)) (.pair .bool (.pair (.int .u8) .unit))))))) (.pair (.int .u8) (.pair (.sl (.int .u8)) (.pair (.int .i64) (.pair (.int .i64) .unit)))))))) (.pair (.sl (.int .u8)) .unit))) t, .v (.int .i64) set, .v (.int .i64) s, .v (.int .i64) i] [] (fun r H => coRes H [.bool, (.int .i64)] r k)) = Main t set s i k := by kernel_rfl
theorem loop4 (v : V4) (X : Nat → St → Prop) (R : St → Prop) : Q4 v X R → ∃ m, loopN C callF keep4 0 body4 ⟨0, [], fun _ => False, X, R⟩ m (st4 v) := by
  refine loop_ind (fun v => Q4 v X R) (fun (t, set, s, i, j) => t.1.length - j.toNat) ?_ v
  rintro ⟨t, set, s, i, j⟩ ⟨h0, h1, h2, g0, g1, h4⟩ N hN
  rw [round4]
  obtain ⟨j, rfl⟩ : ∃ a : Nat, j = a := ⟨j.toNat, by omega⟩
  dsimp only at hN
  rw [Int.toNat_natCast] at h4
  have h2' : t.1.length ≤ 1073741824 := h2
  refine bif_d (fun hj => ?_) (fun hj => ?_)
  · have hn : j < t.1.length := by omega
    rw [range_cons hn, List.all_cons, nx] at h4
    rw [w64n (by omega)]
    have next : (bif (List.range' (j + 1) (t.1.length - (j + 1))).all (nx t.1 set i) then X 0 (s1 t s i) else R (s0 false 0)) → N (st4 (t, set, s, i, ((j + 1 : Nat) : Int))) := fun h4 =>
      hN (t, set, s, i, ((j + 1 : Nat) : Int)) ⟨by omega, by omega, h2, g0, g1, by rw [Int.toNat_natCast]; exact h4⟩ (by dsimp only; omega)
    refine ⟨by omega, bif_i (fun e => ⟨by omega, by omega, g0, g1, bif_i (fun e2 => ?_) (fun e2 => ?_)⟩) (fun e => ?_)⟩
    · rw [show (bt set (j : Int) == 0) = true from e, show A.F42.val (t.1.getD j d30) (t.1.getD i.toNat d30) = true from e2, Bool.true_and, Bool.not_true, Bool.false_and, cond_false] at h4
      exact h4
    · rw [show (bt set (j : Int) == 0) = true from e, show A.F42.val (t.1.getD j d30) (t.1.getD i.toNat d30) = false from e2, Bool.true_and, Bool.not_false, Bool.true_and] at h4
      exact next h4
    · rw [show (bt set (j : Int) == 0) = false from e, Bool.false_and, Bool.not_false, Bool.true_and] at h4
      exact next h4
  · rw [show t.1.length - j = 0 by omega, show List.range' j 0 = [] from rfl, List.all_nil, cond_true] at h4
    exact h4
def Pre (t : D103) (set s i : Int) : Prop := t.1.length ≤ LB ∧ 0 ≤ i ∧ i < t.1.length ∧ F63.Pre t s ∧ B.F26.Pre (t.1.getD i.toNat d30) (F63.val t s) ∧ F64.Pre t.1 (B.F26.val (t.1.getD i.toNat d30) (F63.val t s)).2
def val (t : D103) (set s i : Int) : Bool × Int := bif bt set i == 1 then (false, 0) else bif (List.range' 0 t.1.length).all (nx t.1 set i) then ((B.F26.val (t.1.getD i.toNat d30) (F63.val t s)).1, F64.val t.1 (B.F26.val (t.1.getD i.toNat d30) (F63.val t s)).2) else (false, 0)
theorem spec (t : D103) (set s i : Int) (k : AV → Prop) (h : AllP [Pre t set s i]) (hk : k (.tup [⟨.bool, (val t set s i).1⟩, ⟨.int .i64, (val t set s i).2⟩])) : Main t set s i k := by
  obtain ⟨⟨h1, h2, h3, h4, h5, h6⟩, _⟩ := h
  unfold val at hk
  refine ⟨h2, bif_i (fun e => ?_) (fun e => ⟨rfl, Int.le_refl 0, by omega, h1, h2, h3, bif_i (fun e2 => ⟨h2, h3, h4, h5, h6, ?_⟩) (fun e2 => ?_)⟩)⟩
  · rw [show (bt set i == 1) = true from e, cond_true] at hk; exact hk
  · rw [show (bt set i == 1) = false from e, cond_false, show (List.range' 0 t.1.length).all (nx t.1 set i) = true from e2, cond_true] at hk; exact hk
  · rw [show (bt set i == 1) = false from e, cond_false, show (List.range' 0 t.1.length).all (nx t.1 set i) = false from e2, cond_false] at hk; exact hk
noncomputable def ts : List Ty := [(.ptr T103), (.int .i64), (.int .i64), (.int .i64)]
noncomputable def G : List AV → PV := pg4 (.ptr T103) (.int .i64) (.int .i64) (.int .i64) (fun t set s i => [Pre t set s i]) (fun t set s i => .tup [⟨.bool, (val t set s i).1⟩, ⟨.int .i64, (val t set s i).2⟩])
theorem loopsOK : LoopsOK C callF (bodyOf Try.f58) := loopsOK_seek (tbl := loops) (fun _ => rfl) (by kernel_rfl) (List.forall_mem_cons.2 ⟨mkL_ok loop4, fun _ h => nomatch h⟩)
theorem pursOK : ∀ g ts F, C.pur g = some (ts, F) → SoundP Try.prog g F := purOf_ok (l := purs) (List.forall_mem_cons.2 ⟨Go.Proofs.Ytdjdbjcapenjeaa.B.F26.ok, List.forall_mem_cons.2 ⟨Go.Proofs.Ytdjdbjcapenjeaa.A.F42.ok, List.forall_mem_cons.2 ⟨Go.Proofs.Ytdjdbjcapenjeaa.KE.F63.ok, List.forall_mem_cons.2 ⟨Go.Proofs.Ytdjdbjcapenjeaa.KE.F64.ok, fun _ h => nomatch h⟩⟩⟩⟩)
theorem cfsOK : ∀ g, SoundF Try.prog g (callF g) := fun g => soundF_none g
theorem ok : SoundP Try.prog 58 G := by
  unfold G
  refine soundP_pg4 (soundF_run (C := C) (callF := callF) (tabOK C rfl rfl rfl) cfsOK pursOK Try.func58 (by kernel_rfl) loopsOK) [.bool, (.int .i64)] fun t set s i h => ?_
  rw [main]
  exact spec t set s i _ h rfl
end F58

end Go.Proofs.Ytdjdbjcapenjeaa.KE
