/- wire: lists of pairs and of sessions -/
import Derived.Test.YtmemeaaccgmeaaaGreatDxTab
import Derived.Test.YtmemeaaccgmeaaaGreatDx3
import Derived.Test.YtmemeaaccgmeaaaGreatDxTy
set_option linter.unusedVariables false
set_option maxRecDepth 100000
open Go Go.Proofs Go.Proofs.YtmemeaaccgmeaaaGreat.Dx Go.Proofs.YtmemeaaccgmeaaaGreat.Dx.TYtmemeaaccgmeaaaGreat
namespace Go.Proofs.YtmemeaaccgmeaaaGreat.W
abbrev mPairs (m : D66) : List D118 := m.2.2.2.2.2.2.2.2.2.2.2.2.2.2.1
abbrev mSess (m : D66) : List D187 := m.2.2.2.2.2.2.2.2.2.2.2.2.2.2.2.1
theorem range_cons {j n : Nat} (h : j < n) : List.range' j (n - j) = j :: List.range' (j + 1) (n - (j + 1)) := by
  rw [show n - j = (n - (j + 1)) + 1 by omega, List.range'_succ]
theorem getD_mem {α : Type} {l : List α} {i : Nat} (h : i < l.length) (d : α) : l.getD i d ∈ l := by
  rw [List.getD_eq_getElem?_getD, List.getElem?_eq_getElem h]; exact List.getElem_mem h
theorem take_snoc {α : Type} {l : List α} {i : Nat} (h : i < l.length) (d : α) : l.take (i + 1) = l.take i ++ [l.getD i d] := by
  rw [List.take_succ_eq_append_getElem h, List.getD_eq_getElem?_getD, List.getElem?_eq_getElem h]; rfl
namespace F83
noncomputable def purs : List (Nat × (List Ty × (List AV → PV))) := []
noncomputable def callF (g : FuncId) : CF := fun _ _ _ => False
noncomputable def loops : List (Nat × (List Nat × (K → Nat → St → Prop))) := []
noncomputable def C : Ctx := { ti := ti, meth := meth, can := can, pur := purOf purs, loops := fun i => seek loops i, gh := fun _ => [], rk := some ([2], 0) }
noncomputable def Main (a : Int) (k : AV → Prop) : Prop :=
  (bif decide (a < (16 : Int)) then k (.v (.int .u8) ((1 : Int))) else (bif decide (a < (32 : Int)) then k (.v (.int .u8) ((2 : Int))) else (bif a == (32 : Int) then k (.v (.int .u8) ((3 : Int))) else k (.v (.int .u8) ((4 : Int))))))
theorem main (a : Int) (k : AV → Prop) : (runFn C callF Tryz.f83 [.v (.int .u8) a] [] (fun r H => coRes H [(.int .u8)] r k)) = Main a k := by kernel_rfl
def val (a : Int) : Int :=
  (bif decide (a < (16 : Int)) then ((1 : Int)) else (bif decide (a < (32 : Int)) then ((2 : Int)) else (bif a == (32 : Int) then ((3 : Int)) else ((4 : Int)))))
def valAV (x : Int) : AV := .v (.int .u8) x
theorem spec (a : Int) (k : AV → Prop) (_ : AllP []) (hk : k (.v (.int .u8) (val a))) : Main a k := (show (fun x => k (valAV x)) (val a) → Main a k from ((bif_pV (K := fun x => k (valAV x)) (fun _ h => h) (bif_pV (K := fun x => k (valAV x)) (fun _ h => h) (bif_pV (K := fun x => k (valAV x)) (fun _ h => h) (fun _ h => h)))) : True → (fun x => k (valAV x)) (val a) → Main a k) trivial) hk
noncomputable def ts : List Ty := [(.int .u8)]
noncomputable def G : List AV → PV := pg1 (.int .u8) (fun a => []) (fun a => .v (.int .u8) (val a))
theorem loopsOK : LoopsOK C callF (bodyOf Tryz.f83) := loopsOK_seek (tbl := loops) (fun _ => rfl) (by kernel_rfl) (fun _ h => nomatch h)
theorem pursOK : ∀ g ts F, C.pur g = some (ts, F) → SoundP Tryz.prog g F := purOf_ok (l := purs) (fun _ h => nomatch h)
theorem cfsOK : ∀ g, SoundF Tryz.prog g (callF g) := fun g => soundF_none g
theorem ok : SoundP Tryz.prog 83 G := by
  unfold G
  refine soundP_pg1 (soundF_run (C := C) (callF := callF) (tabOK C rfl rfl rfl) cfsOK pursOK Tryz.func83 (by kernel_rfl) loopsOK) [(.int .u8)] fun a h => ?_
  rw [main]
  exact spec a _ h rfl
end F83
namespace F275
noncomputable def purs : List (Nat × (List Ty × (List AV → PV))) := []
noncomputable def callF (g : FuncId) : CF := fun _ _ _ => False
noncomputable def loops : List (Nat × (List Nat × (K → Nat → St → Prop))) := []
noncomputable def C : Ctx := { ti := ti, meth := meth, can := can, pur := purOf purs, loops := fun i => seek loops i, gh := fun _ => [], rk := some ([2], 0) }
noncomputable def Main (s : Int) (k : AV → Prop) : Prop :=
  (bif decide (s ≥ (1 : Int)) then k (.v .bool (decide (s ≤ (4 : Int)))) else k (.v .bool (false)))
theorem main (s : Int) (k : AV → Prop) : (runFn C callF Tryz.f275 [.v (.int .u8) s] [] (fun r H => coRes H [.bool] r k)) = Main s k := by kernel_rfl
def val (s : Int) : Bool :=
  (bif decide (s ≥ (1 : Int)) then (decide (s ≤ (4 : Int))) else (false))
def valAV (x : Bool) : AV := .v .bool x
theorem spec (s : Int) (k : AV → Prop) (_ : AllP []) (hk : k (.v .bool (val s))) : Main s k := (show (fun x => k (valAV x)) (val s) → Main s k from ((bif_pV (K := fun x => k (valAV x)) (fun _ h => h) (fun _ h => h)) : True → (fun x => k (valAV x)) (val s) → Main s k) trivial) hk
noncomputable def ts : List Ty := [(.int .u8)]
noncomputable def G : List AV → PV := pg1 (.int .u8) (fun s => []) (fun s => .v .bool (val s))
theorem loopsOK : LoopsOK C callF (bodyOf Tryz.f275) := loopsOK_seek (tbl := loops) (fun _ => rfl) (by kernel_rfl) (fun _ h => nomatch h)
theorem pursOK : ∀ g ts F, C.pur g = some (ts, F) → SoundP Tryz.prog g F := purOf_ok (l := purs) (fun _ h => nomatch h)
theorem cfsOK : ∀ g, SoundF Tryz.prog g (callF g) := fun g => soundF_none g
theorem ok : SoundP Tryz.prog 275 G := by
  unfold G
  refine soundP_pg1 (soundF_run (C := C) (callF := callF) (tabOK C rfl rfl rfl) cfsOK pursOK Tryz.func275 (by kernel_rfl) loopsOK) [.bool] fun s h => ?_
  rw [main]
  exact spec s _ h rfl
end F275
namespace F267
noncomputable def purs : List (Nat × (List Ty × (List AV → PV))) := []
noncomputable def callF (g : FuncId) : CF := fun _ _ _ => False
noncomputable def loops : List (Nat × (List Nat × (K → Nat → St → Prop))) := []
noncomputable def C : Ctx := { ti := ti, meth := meth, can := can, pur := purOf purs, loops := fun i => seek loops i, gh := fun _ => [], rk := some ([2], 0) }
noncomputable def Main (m : D66) (k : AV → Prop) : Prop :=
  (bif m.fst == (6 : Int) then k (.v (.int .i64) ((16 : Int))) else k (.v (.int .i64) ((32 : Int))))
theorem main (m : D66) (k : AV → Prop) : (runFn C callF Tryz.f267 [.v (.ptr (.pair (.int .u8) (.pair (.int .u64) (.pair (.int .u64) (.pair (.int .u64) (.pair (.sl (.int .u8)) (.pair (.sl (.int .u8)) (.pair .bool (.pair (.int .u8) (.pair (.int .u8) (.pair (.int .u8) (.pair (.int .u32) (.pair (.int .u32) (.pair (.int .u64) (.pair (.int .u8) (.pair (.sl (.pair (.int .u64) (.pair (.sl (.int .u8)) .unit))) (.pair (.sl (.pair (.int .u8) (.pair (.int .u64) (.pair (.int .u8) .unit)))) (.pair (.sl (.int .u8)) .unit)))))))))))))))))) m] [] (fun r H => coRes H [(.int .i64)] r k)) = Main m k := by kernel_rfl
def val (m : D66) : Int :=
  (bif m.fst == (6 : Int) then ((16 : Int)) else ((32 : Int)))
def valAV (x : Int) : AV := .v (.int .i64) x
theorem spec (m : D66) (k : AV → Prop) (_ : AllP []) (hk : k (.v (.int .i64) (val m))) : Main m k := (show (fun x => k (valAV x)) (val m) → Main m k from ((bif_pV (K := fun x => k (valAV x)) (fun _ h => h) (fun _ h => h)) : True → (fun x => k (valAV x)) (val m) → Main m k) trivial) hk
noncomputable def ts : List Ty := [(.ptr T66)]
noncomputable def G : List AV → PV := pg1 (.ptr T66) (fun m => []) (fun m => .v (.int .i64) (val m))
theorem loopsOK : LoopsOK C callF (bodyOf Tryz.f267) := loopsOK_seek (tbl := loops) (fun _ => rfl) (by kernel_rfl) (fun _ h => nomatch h)
theorem pursOK : ∀ g ts F, C.pur g = some (ts, F) → SoundP Tryz.prog g F := purOf_ok (l := purs) (fun _ h => nomatch h)
theorem cfsOK : ∀ g, SoundF Tryz.prog g (callF g) := fun g => soundF_none g
theorem ok : SoundP Tryz.prog 267 G := by
  unfold G
  refine soundP_pg1 (soundF_run (C := C) (callF := callF) (tabOK C rfl rfl rfl) cfsOK pursOK Tryz.func267 (by kernel_rfl) loopsOK) [(.int .i64)] fun m h => ?_
  rw [main]
  exact spec m _ h rfl
end F267
namespace F263
abbrev V2 := D66 × (List D118) × Int × Int
noncomputable def st2 (v : V2) : St := ⟨[.dead, .v (.ptr T66) (v.1), .dead, .dead, .dead, .dead, .dead, .dead, .dead, .dead, .v (.sl T118) (v.2.1), .v (.int .i64) (v.2.2.1), .v (.int .i64) (v.2.2.2), .dead, .dead, .dead, .dead, .dead, .dead, .dead, .dead, .dead, .dead, .dead, .dead, .dead, .dead, .dead, .dead], [.var .unit () 207]⟩
noncomputable def dec2 (s : St) : Option V2 := match gV (.ptr T66) (s.T.getD 1 .dead), gV (.sl T118) (s.T.getD 10 .dead), gV (.int .i64) (s.T.getD 11 .dead), gV (.int .i64) (s.T.getD 12 .dead) with | some a1, some a10, some a11, some a12 => some (a1, a10, a11, a12) | _, _, _, _ => none
noncomputable def keep2 : List Nat := [1, 10, 11, 12]
noncomputable def body2 : Code := bodyAt (loopsOf (bodyOf Tryz.f263)) 2
noncomputable def s0 (x4 : Bool) : St := ⟨[.dead, .dead, .dead, .dead, .v .bool x4, .dead, .dead, .dead, .dead, .dead, .dead, .dead, .dead, .dead, .dead, .dead, .dead, .dead, .dead, .dead, .dead, .dead, .dead, .dead, .dead, .dead, .dead, .dead, .dead], []⟩
noncomputable def s1 (x1 : D66) : St := ⟨[.dead, .v (.ptr T66) x1, .dead, .dead, .dead, .dead, .dead, .dead, .dead, .dead, .dead, .dead, .dead, .dead, .dead, .dead, .dead, .dead, .dead, .dead, .dead, .dead, .dead, .dead, .dead, .dead, .dead, .dead, .dead], [.var .unit () 207]⟩
def Q2 : V2 → (Nat → St → Prop) → (St → Prop) → Prop := fun (x1, x10, x11, x12) X R => 0 ≤ x12 ∧ x12 ≤ x10.length ∧ x10.length ≤ LB ∧ x11 = x10.length ∧ (True) ∧ bif (x10.drop x12.toNat).all (fun p => !decide ((p.2.1.length : Int) > 64)) then X 0 (s1 x1) else R (s0 false)
noncomputable def purs : List (Nat × (List Ty × (List AV → PV))) := [(267, (Go.Proofs.YtmemeaaccgmeaaaGreat.W.F267.ts, Go.Proofs.YtmemeaaccgmeaaaGreat.W.F267.G))]
noncomputable def callF (g : FuncId) : CF := fun _ _ _ => False
noncomputable def L2 : K → Nat → St → Prop := mkL dec2 st2 0 1 [] Q2
noncomputable def loops : List (Nat × (List Nat × (K → Nat → St → Prop))) := [(2, (keep2, L2))]
noncomputable def C : Ctx := { ti := ti, meth := meth, can := can, pur := purOf purs, loops := fun i => seek loops i, gh := fun _ => [], xk := fun i => seek [(0, ([1], 0))] i, rk := some ([4], 0) }
noncomputable def Round2 (x1 : D66) (x10 : (List D118)) (x11 : Int) (x12 : Int) (N : St → Prop) (X : Nat → St → Prop) (R : St → Prop) : Prop :=
  (bif decide (x12 < x11) then (((0 : Int) ≤ x12) ∧ ((x12 < (↑x10.length : Int)) ∧ (bif decide ((↑(List.length (x10.getD x12.toNat d118).snd.fst) : Int) > (64 : Int)) then R (s0 (false)) else N (st2 (x1, x10, x11, IntKind.i64.wrap (x12 + (1 : Int))))))) else X 0 (s1 (x1)))
theorem round2 (x1 : D66) (x10 : (List D118)) (x11 : Int) (x12 : Int) (N : St → Prop) (X : Nat → St → Prop) (R : St → Prop) : exec C callF body2 ⟨0, [1], fun s' => cond (Nat.ble 1 s'.H.length) (N (scrub keep2 1 s')) False, X, R⟩ (st2 (x1, x10, x11, x12)) = Round2 x1 x10 x11 x12 N X R := by kernel_rfl
noncomputable def Main (r : Unit) (m : D66) (k : AV → Prop) : Prop :=
  (st2 (m, m.snd.snd.snd.snd.snd.snd.snd.snd.snd.snd.snd.snd.snd.snd.fst, (↑(List.length m.snd.snd.snd.snd.snd.snd.snd.snd.snd.snd.snd.snd.snd.snd.fst) : Int), (0 : Int)) = st2 (m, m.snd.snd.snd.snd.snd.snd.snd.snd.snd.snd.snd.snd.snd.snd.fst, (↑(List.length m.snd.snd.snd.snd.snd.snd.snd.snd.snd.snd.snd.snd.snd.snd.fst) : Int), (0 : Int)) ∧ (((0 : Int) ≤ (0 : Int)) ∧ (((0 : Int) ≤ (↑(List.length m.snd.snd.snd.snd.snd.snd.snd.snd.snd.snd.snd.snd.snd.snd.fst) : Int)) ∧ ((List.length m.snd.snd.snd.snd.snd.snd.snd.snd.snd.snd.snd.snd.snd.snd.fst ≤ LB) ∧ (((↑(List.length m.snd.snd.snd.snd.snd.snd.snd.snd.snd.snd.snd.snd.snd.snd.fst) : Int) = (↑(List.length m.snd.snd.snd.snd.snd.snd.snd.snd.snd.snd.snd.snd.snd.snd.fst) : Int)) ∧ ((True) ∧ (bif List.all m.snd.snd.snd.snd.snd.snd.snd.snd.snd.snd.snd.snd.snd.snd.fst fun (p : D118) => !decide ((↑p.snd.fst.length : Int) > (64 : Int)) then k (.v .bool (decide ((↑(List.length m.snd.snd.snd.snd.snd.snd.snd.snd.snd.snd.snd.snd.snd.snd.fst) : Int) ≤ F267.val m))) else k (.v .bool (false)))))))))
theorem main (r : Unit) (m : D66) (k : AV → Prop) : (runFn C callF Tryz.f263 [.v .unit r, .v (.ptr (.pair (.int .u8) (.pair (.int .u64) (.pair (.int .u64) (.pair (.int .u64) (.pair (.sl (.int .u8)) (.pair (.sl (.int .u8)) (.pair .bool (.pair (.int .u8) (.pair (.int .u8) (.pair (.int .u8) (.pair (.int .u32) (.pair (.int .u32) (.pair (.int .u64) (.pair (.int .u8) (.pair (.sl (.pair (.int .u64) (.pair (.sl (.int .u8)) .unit))) (.pair (.sl (.pair (.int .u8) (.pair (.int .u64) (.pair (.int .u8) .unit)))) (.pair (.sl (.int .u8)) .unit)))))))))))))))))) m] [] (fun r H => coRes H [.bool] r k)) = Main r m k := by kernel_rfl
theorem loop2 (v : V2) (X : Nat → St → Prop) (R : St → Prop) : Q2 v X R → ∃ m, loopN C callF keep2 1 body2 ⟨0, [], fun _ => False, X, R⟩ m (st2 v) := by
  refine loop_ind (fun v => Q2 v X R) (fun (x1, x10, x11, x12) => x10.length - x12.toNat) ?_ v
  rintro ⟨x1, x10, x11, x12⟩ ⟨h0, h1, h2, hn, hx, h4⟩ N hN
  rw [round2]
  obtain ⟨j, rfl⟩ : ∃ j : Nat, x12 = j := ⟨x12.toNat, by omega⟩
  dsimp only at hN
  rw [Int.toNat_natCast] at h4
  have h2' : x10.length ≤ 1073741824 := h2
  refine bif_d (fun hj => ?_) (fun hj => ?_)
  · have hjn : j < x10.length := by omega
    rw [drop_cons (l := x10) hjn d118, List.all_cons] at h4
    refine ⟨by omega, by omega, ?_⟩
    rw [Int.toNat_natCast]
    cases hp : (fun p => !decide ((p.2.1.length : Int) > 64)) (x10.getD j d118) with
    | false =>
      try dsimp only at hp
      rw [hp, Bool.false_and, cond_false] at h4
      exact bif_i (fun he => by first | exact h4 | (exfalso; rw [he] at hp; cases hp) | (exfalso; rw [hp] at he; cases he) | exact absurd he (by decide)) (fun he => by first | exact h4 | (exfalso; rw [he] at hp; cases hp) | (exfalso; rw [hp] at he; cases he) | exact absurd he (by decide))
    | true =>
      try dsimp only at hp
      rw [hp, Bool.true_and] at h4
      have hN' : N (st2 (x1, x10, x11, ((j + 1 : Nat) : Int))) := hN _ ⟨by omega, by omega, h2, hn, hx, by rw [Int.toNat_natCast]; exact h4⟩ (by dsimp only; omega)
      rw [w64n (by omega)]
      exact bif_i (fun he => by first | exact hN' | (exfalso; rw [he] at hp; cases hp) | (exfalso; rw [hp] at he; cases he) | exact absurd he (by decide)) (fun he => by first | exact hN' | (exfalso; rw [he] at hp; cases hp) | (exfalso; rw [hp] at he; cases he) | exact absurd he (by decide))
  · rw [List.drop_eq_nil_of_le (by omega)] at h4
    exact h4
def val (m : D66) : Bool := ((mPairs m).all fun p => !decide ((p.2.1.length : Int) > 64)) && decide (((mPairs m).length : Int) ≤ F267.val m)
theorem spec (r : Unit) (m : D66) (k : AV → Prop) (h : AllP [(mPairs m).length ≤ LB]) (hk : k (.v .bool (val m))) : Main r m k := by
  refine ⟨rfl, by omega, by omega, h.1, rfl, trivial, ?_⟩
  show bif ((mPairs m).all fun p => !decide ((p.2.1.length : Int) > 64)) then k _ else k _
  unfold val at hk
  cases e : ((mPairs m).all fun p => !decide ((p.2.1.length : Int) > 64)) <;> (rw [e] at hk; exact hk)
noncomputable def ts : List Ty := [.unit, (.ptr T66)]
noncomputable def G : List AV → PV := pg2 .unit (.ptr T66) (fun r m => [(mPairs m).length ≤ LB]) (fun r m => .v .bool (val m))
theorem loopsOK : LoopsOK C callF (bodyOf Tryz.f263) := loopsOK_seek (tbl := loops) (fun _ => rfl) (by kernel_rfl) (List.forall_mem_cons.2 ⟨mkL_ok loop2, fun _ h => nomatch h⟩)
theorem pursOK : ∀ g ts F, C.pur g = some (ts, F) → SoundP Tryz.prog g F := purOf_ok (l := purs) (List.forall_mem_cons.2 ⟨Go.Proofs.YtmemeaaccgmeaaaGreat.W.F267.ok, fun _ h => nomatch h⟩)
theorem cfsOK : ∀ g, SoundF Tryz.prog g (callF g) := fun g => soundF_none g
theorem ok : SoundP Tryz.prog 263 G := by
  unfold G
  refine soundP_pg2 (soundF_run (C := C) (callF := callF) (tabOK C rfl rfl rfl) cfsOK pursOK Tryz.func263 (by kernel_rfl) loopsOK) [.bool] fun r m h => ?_
  rw [main]
  exact spec r m _ h rfl
end F263
namespace F260
abbrev V2 := D66 × (List D118) × Int × Int
noncomputable def st2 (v : V2) : St := ⟨[.dead, .v (.ptr T66) (v.1), .dead, .dead, .dead, .dead, .dead, .dead, .dead, .dead, .v (.sl T118) (v.2.1), .v (.int .i64) (v.2.2.1), .v (.int .i64) (v.2.2.2), .dead, .dead, .dead, .dead, .dead, .dead, .dead, .dead, .dead, .dead, .dead, .dead, .dead, .dead, .dead, .dead, .dead, .dead, .dead, .dead, .dead, .dead, .dead, .dead, .dead, .dead, .dead, .dead, .dead, .dead, .dead, .dead, .dead, .dead, .dead, .dead, .dead, .dead, .dead], [.var .unit () 207]⟩
noncomputable def dec2 (s : St) : Option V2 := match gV (.ptr T66) (s.T.getD 1 .dead), gV (.sl T118) (s.T.getD 10 .dead), gV (.int .i64) (s.T.getD 11 .dead), gV (.int .i64) (s.T.getD 12 .dead) with | some a1, some a10, some a11, some a12 => some (a1, a10, a11, a12) | _, _, _, _ => none
noncomputable def keep2 : List Nat := [1, 10, 11, 12]
noncomputable def body2 : Code := bodyAt (loopsOf (bodyOf Tryz.f260)) 2
noncomputable def s0 (x4 : Bool) : St := ⟨[.dead, .dead, .dead, .dead, .v .bool x4, .dead, .dead, .dead, .dead, .dead, .dead, .dead, .dead, .dead, .dead, .dead, .dead, .dead, .dead, .dead, .dead, .dead, .dead, .dead, .dead, .dead, .dead, .dead, .dead, .dead, .dead, .dead, .dead, .dead, .dead, .dead, .dead, .dead, .dead, .dead, .dead, .dead, .dead, .dead, .dead, .dead, .dead, .dead, .dead, .dead, .dead, .dead], []⟩
noncomputable def s1 : St := ⟨[.dead, .dead, .dead, .dead, .dead, .dead, .dead, .dead, .dead, .dead, .dead, .dead, .dead, .dead, .dead, .dead, .dead, .dead, .dead, .dead, .dead, .dead, .dead, .dead, .dead, .dead, .dead, .dead, .dead, .dead, .dead, .dead, .dead, .dead, .dead, .dead, .dead, .dead, .dead, .dead, .dead, .dead, .dead, .dead, .dead, .dead, .dead, .dead, .dead, .dead, .dead, .dead], [.var .unit () 207]⟩
def okP (m : D66) (i : Nat) : Bool := !(decide (((mPairs m).getD i d118).1 < m.2.2.1) || (decide (((mPairs m).getD i d118).1 > m.2.2.2.1) || (decide (0 < i) && decide (((mPairs m).getD i d118).1 ≤ ((mPairs m).getD (i - 1) d118).1))))
def Q2 : V2 → (Nat → St → Prop) → (St → Prop) → Prop := fun (m, l, n, i) X R => 0 ≤ i ∧ i ≤ l.length ∧ n = l.length ∧ l = mPairs m ∧ l.length ≤ LB ∧ bif (List.range' i.toNat (l.length - i.toNat)).all (okP m) then X 0 s1 else R (s0 false)
noncomputable def purs : List (Nat × (List Ty × (List AV → PV))) := []
noncomputable def callF (g : FuncId) : CF := fun _ _ _ => False
noncomputable def L2 : K → Nat → St → Prop := mkL dec2 st2 0 1 [] Q2
noncomputable def loops : List (Nat × (List Nat × (K → Nat → St → Prop))) := [(2, (keep2, L2))]
noncomputable def C : Ctx := { ti := ti, meth := meth, can := can, pur := purOf purs, loops := fun i => seek loops i, gh := fun _ => [], xk := fun i => seek [(0, ([], 0))] i, rk := some ([4], 0) }
noncomputable def Round2 (x1 : D66) (x10 : (List D118)) (x11 : Int) (x12 : Int) (N : St → Prop) (X : Nat → St → Prop) (R : St → Prop) : Prop :=
  (bif decide (x12 < x11) then (((0 : Int) ≤ x12) ∧ ((x12 < (↑x10.length : Int)) ∧ (bif decide ((x10.getD x12.toNat d118).fst < x1.snd.snd.fst) then R (s0 (false)) else (bif decide ((x10.getD x12.toNat d118).fst > x1.snd.snd.snd.fst) then R (s0 (false)) else (bif decide (x12 > (0 : Int)) then (((0 : Int) ≤ IntKind.i64.wrap (x12 - (1 : Int))) ∧ ((IntKind.i64.wrap (x12 - (1 : Int)) < (↑(List.length x1.snd.snd.snd.snd.snd.snd.snd.snd.snd.snd.snd.snd.snd.snd.fst) : Int)) ∧ (bif decide ((x10.getD x12.toNat d118).fst ≤ (List.getD x1.snd.snd.snd.snd.snd.snd.snd.snd.snd.snd.snd.snd.snd.snd.fst (IntKind.i64.wrap (x12 - (1 : Int))).toNat d118).fst) then R (s0 (false)) else N (st2 (x1, x10, x11, IntKind.i64.wrap (x12 + (1 : Int))))))) else N (st2 (x1, x10, x11, IntKind.i64.wrap (x12 + (1 : Int))))))))) else X 0 (s1))
theorem round2 (x1 : D66) (x10 : (List D118)) (x11 : Int) (x12 : Int) (N : St → Prop) (X : Nat → St → Prop) (R : St → Prop) : exec C callF body2 ⟨0, [1], fun s' => cond (Nat.ble 1 s'.H.length) (N (scrub keep2 1 s')) False, X, R⟩ (st2 (x1, x10, x11, x12)) = Round2 x1 x10 x11 x12 N X R := by kernel_rfl
noncomputable def Main (r : Unit) (m : D66) (k : AV → Prop) : Prop :=
  (st2 (m, m.snd.snd.snd.snd.snd.snd.snd.snd.snd.snd.snd.snd.snd.snd.fst, (↑(List.length m.snd.snd.snd.snd.snd.snd.snd.snd.snd.snd.snd.snd.snd.snd.fst) : Int), (0 : Int)) = st2 (m, m.snd.snd.snd.snd.snd.snd.snd.snd.snd.snd.snd.snd.snd.snd.fst, (↑(List.length m.snd.snd.snd.snd.snd.snd.snd.snd.snd.snd.snd.snd.snd.snd.fst) : Int), (0 : Int)) ∧ (((0 : Int) ≤ (0 : Int)) ∧ (((0 : Int) ≤ (↑(List.length m.snd.snd.snd.snd.snd.snd.snd.snd.snd.snd.snd.snd.snd.snd.fst) : Int)) ∧ (((↑(List.length m.snd.snd.snd.snd.snd.snd.snd.snd.snd.snd.snd.snd.snd.snd.fst) : Int) = (↑(List.length m.snd.snd.snd.snd.snd.snd.snd.snd.snd.snd.snd.snd.snd.snd.fst) : Int)) ∧ ((m.snd.snd.snd.snd.snd.snd.snd.snd.snd.snd.snd.snd.snd.snd.fst = mPairs m) ∧ ((List.length m.snd.snd.snd.snd.snd.snd.snd.snd.snd.snd.snd.snd.snd.snd.fst ≤ LB) ∧ (bif (List.range' (Int.toNat (0 : Int)) (List.length m.snd.snd.snd.snd.snd.snd.snd.snd.snd.snd.snd.snd.snd.snd.fst - Int.toNat (0 : Int))).all (okP m) then k (.v .bool (true)) else k (.v .bool (false)))))))))
theorem main (r : Unit) (m : D66) (k : AV → Prop) : (runFn C callF Tryz.f260 [.v .unit r, .v (.ptr (.pair (.int .u8) (.pair (.int .u64) (.pair (.int .u64) (.pair (.int .u64) (.pair (.sl (.int .u8)) (.pair (.sl (.int .u8)) (.pair .bool (.pair (.int .u8) (.pair (.int .u8) (.pair (.int .u8) (.pair (.int .u32) (.pair (.int .u32) (.pair (.int .u64) (.pair (.int .u8) (.pair (.sl (.pair (.int .u64) (.pair (.sl (.int .u8)) .unit))) (.pair (.sl (.pair (.int .u8) (.pair (.int .u64) (.pair (.int .u8) .unit)))) (.pair (.sl (.int .u8)) .unit)))))))))))))))))) m] [] (fun r H => coRes H [.bool] r k)) = Main r m k := by kernel_rfl
theorem loop2 (v : V2) (X : Nat → St → Prop) (R : St → Prop) : Q2 v X R → ∃ m, loopN C callF keep2 1 body2 ⟨0, [], fun _ => False, X, R⟩ m (st2 v) := by
  refine loop_ind (fun v => Q2 v X R) (fun (m, l, n, i) => l.length - i.toNat) ?_ v
  rintro ⟨m, l, n, i⟩ ⟨h0, h1, rfl, rfl, h2, h4⟩ N hN
  rw [round2]
  obtain ⟨j, rfl⟩ : ∃ a : Nat, i = a := ⟨i.toNat, by omega⟩
  dsimp only at hN
  rw [Int.toNat_natCast] at h4
  have h2' : (mPairs m).length ≤ 1073741824 := h2
  refine bif_d (fun hj => ?_) (fun hj => ?_)
  · have hn : j < (mPairs m).length := by omega
    rw [range_cons hn, List.all_cons] at h4
    rw [Int.toNat_natCast, w64n (by omega)]
    have bad : okP m j = false → R (s0 false) := fun e => by rw [e, Bool.false_and, cond_false] at h4; exact h4
    have good : okP m j = true → N (st2 (m, mPairs m, ((mPairs m).length : Int), ((j + 1 : Nat) : Int))) := fun e => by
      rw [e, Bool.true_and] at h4
      exact hN (m, mPairs m, ((mPairs m).length : Int), ((j + 1 : Nat) : Int)) ⟨by omega, by omega, rfl, rfl, h2, by rw [Int.toNat_natCast]; exact h4⟩ (by dsimp only; omega)
    refine ⟨by omega, by omega, bif_d (fun a => bad ?_) (fun a => bif_d (fun b => bad ?_) (fun b => bif_d (fun c => ?_) (fun c => good ?_)))⟩
    · unfold okP; rw [decide_eq_true a]; rfl
    · unfold okP; rw [decide_eq_true b, Bool.true_or, Bool.or_true]; rfl
    · have e1 : IntKind.i64.wrap ((j : Int) - 1) = ((j - 1 : Nat) : Int) := by rw [w64 (by omega) (by omega)]; omega
      rw [e1, Int.toNat_natCast]
      refine ⟨by omega, by show ((j - 1 : Nat) : Int) < ((mPairs m).length : Int); omega, bif_d (fun d => bad ?_) (fun d => good ?_)⟩
      · unfold okP; rw [decide_eq_true (show 0 < j by omega), decide_eq_true d, Bool.and_self, Bool.or_true, Bool.or_true]; rfl
      · unfold okP; rw [decide_eq_false a, decide_eq_false b, decide_eq_false d, Bool.and_false]; rfl
    · unfold okP; rw [decide_eq_false a, decide_eq_false b, decide_eq_false (show ¬ 0 < j by omega)]; rfl
  · rw [show (mPairs m).length - j = 0 by omega] at h4
    exact h4
def val (m : D66) : Bool := (List.range' 0 (mPairs m).length).all (okP m)
theorem spec (r : Unit) (m : D66) (k : AV → Prop) (h : AllP [(mPairs m).length ≤ LB]) (hk : k (.v .bool (val m))) : Main r m k := by
  refine ⟨rfl, by omega, by omega, rfl, rfl, h.1, ?_⟩
  show bif val m then k _ else k _
  cases e : val m <;> (rw [e] at hk; exact hk)
noncomputable def ts : List Ty := [.unit, (.ptr T66)]
noncomputable def G : List AV → PV := pg2 .unit (.ptr T66) (fun r m => [(mPairs m).length ≤ LB]) (fun r m => .v .bool (val m))
theorem loopsOK : LoopsOK C callF (bodyOf Tryz.f260) := loopsOK_seek (tbl := loops) (fun _ => rfl) (by kernel_rfl) (List.forall_mem_cons.2 ⟨mkL_ok loop2, fun _ h => nomatch h⟩)
theorem pursOK : ∀ g ts F, C.pur g = some (ts, F) → SoundP Tryz.prog g F := purOf_ok (l := purs) (fun _ h => nomatch h)
theorem cfsOK : ∀ g, SoundF Tryz.prog g (callF g) := fun g => soundF_none g
theorem ok : SoundP Tryz.prog 260 G := by
  unfold G
  refine soundP_pg2 (soundF_run (C := C) (callF := callF) (tabOK C rfl rfl rfl) cfsOK pursOK Tryz.func260 (by kernel_rfl) loopsOK) [.bool] fun r m h => ?_
  rw [main]
  exact spec r m _ h rfl
end F260
namespace F271
abbrev V2 := D66 × (List D187) × Int × Int
noncomputable def st2 (v : V2) : St := ⟨[.dead, .v (.ptr T66) (v.1), .dead, .dead, .dead, .dead, .dead, .dead, .dead, .dead, .v (.sl T187) (v.2.1), .v (.int .i64) (v.2.2.1), .v (.int .i64) (v.2.2.2), .dead, .dead, .dead, .dead, .dead, .dead, .dead, .dead, .dead, .dead, .dead, .dead, .dead, .dead, .dead, .dead, .dead, .dead, .dead, .dead, .dead, .dead, .dead, .dead, .dead], [.var .unit () 208]⟩
noncomputable def dec2 (s : St) : Option V2 := match gV (.ptr T66) (s.T.getD 1 .dead), gV (.sl T187) (s.T.getD 10 .dead), gV (.int .i64) (s.T.getD 11 .dead), gV (.int .i64) (s.T.getD 12 .dead) with | some a1, some a10, some a11, some a12 => some (a1, a10, a11, a12) | _, _, _, _ => none
noncomputable def keep2 : List Nat := [1, 10, 11, 12]
noncomputable def body2 : Code := bodyAt (loopsOf (bodyOf Tryz.f271)) 2
noncomputable def s0 (x4 : Bool) : St := ⟨[.dead, .dead, .dead, .dead, .v .bool x4, .dead, .dead, .dead, .dead, .dead, .dead, .dead, .dead, .dead, .dead, .dead, .dead, .dead, .dead, .dead, .dead, .dead, .dead, .dead, .dead, .dead, .dead, .dead, .dead, .dead, .dead, .dead, .dead, .dead, .dead, .dead, .dead, .dead], []⟩
noncomputable def s1 (x1 : D66) : St := ⟨[.dead, .v (.ptr T66) x1, .dead, .dead, .dead, .dead, .dead, .dead, .dead, .dead, .dead, .dead, .dead, .dead, .dead, .dead, .dead, .dead, .dead, .dead, .dead, .dead, .dead, .dead, .dead, .dead, .dead, .dead, .dead, .dead, .dead, .dead, .dead, .dead, .dead, .dead, .dead, .dead], [.var .unit () 208]⟩
def okS (p : D187) : Bool := !(F83.val p.1 != 2) && (!(p.2.1 == 0) && F275.val p.2.2.1)
def Q2 : V2 → (Nat → St → Prop) → (St → Prop) → Prop := fun (x1, x10, x11, x12) X R => 0 ≤ x12 ∧ x12 ≤ x10.length ∧ x10.length ≤ LB ∧ x11 = x10.length ∧ (True) ∧ bif (x10.drop x12.toNat).all (okS) then X 0 (s1 x1) else R (s0 false)
noncomputable def purs : List (Nat × (List Ty × (List AV → PV))) := [(83, (Go.Proofs.YtmemeaaccgmeaaaGreat.W.F83.ts, Go.Proofs.YtmemeaaccgmeaaaGreat.W.F83.G)), (275, (Go.Proofs.YtmemeaaccgmeaaaGreat.W.F275.ts, Go.Proofs.YtmemeaaccgmeaaaGreat.W.F275.G))]
noncomputable def callF (g : FuncId) : CF := fun _ _ _ => False
noncomputable def L2 : K → Nat → St → Prop := mkL dec2 st2 0 1 [] Q2
noncomputable def loops : List (Nat × (List Nat × (K → Nat → St → Prop))) := [(2, (keep2, L2))]
noncomputable def C : Ctx := { ti := ti, meth := meth, can := can, pur := purOf purs, loops := fun i => seek loops i, gh := fun _ => [], xk := fun i => seek [(0, ([1], 0))] i, rk := some ([4], 0) }
noncomputable def Round2 (x1 : D66) (x10 : (List D187)) (x11 : Int) (x12 : Int) (N : St → Prop) (X : Nat → St → Prop) (R : St → Prop) : Prop :=
  (bif decide (x12 < x11) then (((0 : Int) ≤ x12) ∧ ((x12 < (↑x10.length : Int)) ∧ (bif F83.val (x10.getD x12.toNat d187).fst != (2 : Int) then R (s0 (false)) else (bif (x10.getD x12.toNat d187).snd.fst == (0 : Int) then R (s0 (false)) else (bif !F275.val (x10.getD x12.toNat d187).snd.snd.fst then R (s0 (false)) else N (st2 (x1, x10, x11, IntKind.i64.wrap (x12 + (1 : Int))))))))) else X 0 (s1 (x1)))
theorem round2 (x1 : D66) (x10 : (List D187)) (x11 : Int) (x12 : Int) (N : St → Prop) (X : Nat → St → Prop) (R : St → Prop) : exec C callF body2 ⟨0, [1], fun s' => cond (Nat.ble 1 s'.H.length) (N (scrub keep2 1 s')) False, X, R⟩ (st2 (x1, x10, x11, x12)) = Round2 x1 x10 x11 x12 N X R := by kernel_rfl
noncomputable def Main (r : Unit) (m : D66) (k : AV → Prop) : Prop :=
  (st2 (m, m.snd.snd.snd.snd.snd.snd.snd.snd.snd.snd.snd.snd.snd.snd.snd.fst, (↑(List.length m.snd.snd.snd.snd.snd.snd.snd.snd.snd.snd.snd.snd.snd.snd.snd.fst) : Int), (0 : Int)) = st2 (m, m.snd.snd.snd.snd.snd.snd.snd.snd.snd.snd.snd.snd.snd.snd.snd.fst, (↑(List.length m.snd.snd.snd.snd.snd.snd.snd.snd.snd.snd.snd.snd.snd.snd.snd.fst) : Int), (0 : Int)) ∧ (((0 : Int) ≤ (0 : Int)) ∧ (((0 : Int) ≤ (↑(List.length m.snd.snd.snd.snd.snd.snd.snd.snd.snd.snd.snd.snd.snd.snd.snd.fst) : Int)) ∧ ((List.length m.snd.snd.snd.snd.snd.snd.snd.snd.snd.snd.snd.snd.snd.snd.snd.fst ≤ LB) ∧ (((↑(List.length m.snd.snd.snd.snd.snd.snd.snd.snd.snd.snd.snd.snd.snd.snd.snd.fst) : Int) = (↑(List.length m.snd.snd.snd.snd.snd.snd.snd.snd.snd.snd.snd.snd.snd.snd.snd.fst) : Int)) ∧ ((True) ∧ (bif List.all m.snd.snd.snd.snd.snd.snd.snd.snd.snd.snd.snd.snd.snd.snd.snd.fst okS then k (.v .bool (decide ((↑(List.length m.snd.snd.snd.snd.snd.snd.snd.snd.snd.snd.snd.snd.snd.snd.snd.fst) : Int) ≤ (16 : Int)))) else k (.v .bool (false)))))))))
theorem main (r : Unit) (m : D66) (k : AV → Prop) : (runFn C callF Tryz.f271 [.v .unit r, .v (.ptr (.pair (.int .u8) (.pair (.int .u64) (.pair (.int .u64) (.pair (.int .u64) (.pair (.sl (.int .u8)) (.pair (.sl (.int .u8)) (.pair .bool (.pair (.int .u8) (.pair (.int .u8) (.pair (.int .u8) (.pair (.int .u32) (.pair (.int .u32) (.pair (.int .u64) (.pair (.int .u8) (.pair (.sl (.pair (.int .u64) (.pair (.sl (.int .u8)) .unit))) (.pair (.sl (.pair (.int .u8) (.pair (.int .u64) (.pair (.int .u8) .unit)))) (.pair (.sl (.int .u8)) .unit)))))))))))))))))) m] [] (fun r H => coRes H [.bool] r k)) = Main r m k := by kernel_rfl
theorem loop2 (v : V2) (X : Nat → St → Prop) (R : St → Prop) : Q2 v X R → ∃ m, loopN C callF keep2 1 body2 ⟨0, [], fun _ => False, X, R⟩ m (st2 v) := by
  refine loop_ind (fun v => Q2 v X R) (fun (x1, x10, x11, x12) => x10.length - x12.toNat) ?_ v
  rintro ⟨x1, x10, x11, x12⟩ ⟨h0, h1, h2, hn, hx, h4⟩ N hN
  rw [round2]
  obtain ⟨j, rfl⟩ : ∃ j : Nat, x12 = j := ⟨x12.toNat, by omega⟩
  dsimp only at hN
  rw [Int.toNat_natCast] at h4
  have h2' : x10.length ≤ 1073741824 := h2
  refine bif_d (fun hj => ?_) (fun hj => ?_)
  · have hjn : j < x10.length := by omega
    rw [drop_cons (l := x10) hjn d187, List.all_cons] at h4
    refine ⟨by omega, by omega, ?_⟩
    rw [Int.toNat_natCast]
    cases hp : (okS) (x10.getD j d187) with
    | false =>
      try dsimp only at hp
      rw [hp, Bool.false_and, cond_false] at h4
      unfold okS at hp; revert hp; cases (F83.val (x10.getD j d187).fst != (2 : Int)) <;> cases ((x10.getD j d187).snd.fst == (0 : Int)) <;> cases F275.val (x10.getD j d187).snd.snd.fst <;> intro hp <;> first | exact h4 | cases hp
    | true =>
      try dsimp only at hp
      rw [hp, Bool.true_and] at h4
      have hN' : N (st2 (x1, x10, x11, ((j + 1 : Nat) : Int))) := hN _ ⟨by omega, by omega, h2, hn, hx, by rw [Int.toNat_natCast]; exact h4⟩ (by dsimp only; omega)
      rw [w64n (by omega)]
      unfold okS at hp; revert hp; cases (F83.val (x10.getD j d187).fst != (2 : Int)) <;> cases ((x10.getD j d187).snd.fst == (0 : Int)) <;> cases F275.val (x10.getD j d187).snd.snd.fst <;> intro hp <;> first | exact hN' | cases hp
  · rw [List.drop_eq_nil_of_le (by omega)] at h4
    exact h4
def val (m : D66) : Bool := (mSess m).all okS && decide (((mSess m).length : Int) ≤ 16)
theorem spec (r : Unit) (m : D66) (k : AV → Prop) (h : AllP [(mSess m).length ≤ LB]) (hk : k (.v .bool (val m))) : Main r m k := by
  refine ⟨rfl, by omega, by omega, h.1, rfl, trivial, ?_⟩
  show bif (mSess m).all okS then k _ else k _
  unfold val at hk
  cases e : (mSess m).all okS <;> (rw [e] at hk; exact hk)
noncomputable def ts : List Ty := [.unit, (.ptr T66)]
noncomputable def G : List AV → PV := pg2 .unit (.ptr T66) (fun r m => [(mSess m).length ≤ LB]) (fun r m => .v .bool (val m))
theorem loopsOK : LoopsOK C callF (bodyOf Tryz.f271) := loopsOK_seek (tbl := loops) (fun _ => rfl) (by kernel_rfl) (List.forall_mem_cons.2 ⟨mkL_ok loop2, fun _ h => nomatch h⟩)
theorem pursOK : ∀ g ts F, C.pur g = some (ts, F) → SoundP Tryz.prog g F := purOf_ok (l := purs) (List.forall_mem_cons.2 ⟨Go.Proofs.YtmemeaaccgmeaaaGreat.W.F83.ok, List.forall_mem_cons.2 ⟨Go.Proofs.YtmemeaaccgmeaaaGreat.W.F275.ok, fun _ h => nomatch h⟩⟩)
theorem cfsOK : ∀ g, SoundF Tryz.prog g (callF g) := fun g => soundF_none g
theorem ok : SoundP Tryz.prog 271 G := by
  unfold G
  refine soundP_pg2 (soundF_run (C := C) (callF := callF) (tabOK C rfl rfl rfl) cfsOK pursOK Tryz.func271 (by kernel_rfl) loopsOK) [.bool] fun r m h => ?_
  rw [main]
  exact spec r m _ h rfl
end F271
namespace F268
abbrev V2 := D66 × (List D187) × Int × Int
noncomputable def st2 (v : V2) : St := ⟨[.dead, .v (.ptr T66) (v.1), .dead, .dead, .dead, .dead, .dead, .dead, .dead, .dead, .v (.sl T187) (v.2.1), .v (.int .i64) (v.2.2.1), .v (.int .i64) (v.2.2.2), .dead, .dead, .dead, .dead, .dead, .dead, .dead, .dead, .dead, .dead, .dead, .dead, .dead, .dead, .dead, .dead, .dead, .dead, .dead, .dead, .dead], [.var .unit () 208]⟩
noncomputable def dec2 (s : St) : Option V2 := match gV (.ptr T66) (s.T.getD 1 .dead), gV (.sl T187) (s.T.getD 10 .dead), gV (.int .i64) (s.T.getD 11 .dead), gV (.int .i64) (s.T.getD 12 .dead) with | some a1, some a10, some a11, some a12 => some (a1, a10, a11, a12) | _, _, _, _ => none
noncomputable def keep2 : List Nat := [1, 10, 11, 12]
noncomputable def body2 : Code := bodyAt (loopsOf (bodyOf Tryz.f268)) 2
noncomputable def s0 (x4 : Bool) : St := ⟨[.dead, .dead, .dead, .dead, .v .bool x4, .dead, .dead, .dead, .dead, .dead, .dead, .dead, .dead, .dead, .dead, .dead, .dead, .dead, .dead, .dead, .dead, .dead, .dead, .dead, .dead, .dead, .dead, .dead, .dead, .dead, .dead, .dead, .dead, .dead], []⟩
noncomputable def s1 : St := ⟨[.dead, .dead, .dead, .dead, .dead, .dead, .dead, .dead, .dead, .dead, .dead, .dead, .dead, .dead, .dead, .dead, .dead, .dead, .dead, .dead, .dead, .dead, .dead, .dead, .dead, .dead, .dead, .dead, .dead, .dead, .dead, .dead, .dead, .dead], [.var .unit () 208]⟩
def okO (m : D66) (i : Nat) : Bool := !(decide (0 < i) && decide (((mSess m).getD i d187).1 ≤ ((mSess m).getD (i - 1) d187).1))
def Q2 : V2 → (Nat → St → Prop) → (St → Prop) → Prop := fun (m, l, n, i) X R => 0 ≤ i ∧ i ≤ l.length ∧ n = l.length ∧ l = mSess m ∧ l.length ≤ LB ∧ bif (List.range' i.toNat (l.length - i.toNat)).all (okO m) then X 0 s1 else R (s0 false)
noncomputable def purs : List (Nat × (List Ty × (List AV → PV))) := []
noncomputable def callF (g : FuncId) : CF := fun _ _ _ => False
noncomputable def L2 : K → Nat → St → Prop := mkL dec2 st2 0 1 [] Q2
noncomputable def loops : List (Nat × (List Nat × (K → Nat → St → Prop))) := [(2, (keep2, L2))]
noncomputable def C : Ctx := { ti := ti, meth := meth, can := can, pur := purOf purs, loops := fun i => seek loops i, gh := fun _ => [], xk := fun i => seek [(0, ([], 0))] i, rk := some ([4], 0) }
noncomputable def Round2 (x1 : D66) (x10 : (List D187)) (x11 : Int) (x12 : Int) (N : St → Prop) (X : Nat → St → Prop) (R : St → Prop) : Prop :=
  (bif decide (x12 < x11) then (((0 : Int) ≤ x12) ∧ ((x12 < (↑x10.length : Int)) ∧ (bif decide (x12 > (0 : Int)) then (((0 : Int) ≤ IntKind.i64.wrap (x12 - (1 : Int))) ∧ ((IntKind.i64.wrap (x12 - (1 : Int)) < (↑(List.length x1.snd.snd.snd.snd.snd.snd.snd.snd.snd.snd.snd.snd.snd.snd.snd.fst) : Int)) ∧ (bif decide ((x10.getD x12.toNat d187).fst ≤ (List.getD x1.snd.snd.snd.snd.snd.snd.snd.snd.snd.snd.snd.snd.snd.snd.snd.fst (IntKind.i64.wrap (x12 - (1 : Int))).toNat d187).fst) then R (s0 (false)) else N (st2 (x1, x10, x11, IntKind.i64.wrap (x12 + (1 : Int))))))) else N (st2 (x1, x10, x11, IntKind.i64.wrap (x12 + (1 : Int))))))) else X 0 (s1))
theorem round2 (x1 : D66) (x10 : (List D187)) (x11 : Int) (x12 : Int) (N : St → Prop) (X : Nat → St → Prop) (R : St → Prop) : exec C callF body2 ⟨0, [1], fun s' => cond (Nat.ble 1 s'.H.length) (N (scrub keep2 1 s')) False, X, R⟩ (st2 (x1, x10, x11, x12)) = Round2 x1 x10 x11 x12 N X R := by kernel_rfl
noncomputable def Main (r : Unit) (m : D66) (k : AV → Prop) : Prop :=
  (st2 (m, m.snd.snd.snd.snd.snd.snd.snd.snd.snd.snd.snd.snd.snd.snd.snd.fst, (↑(List.length m.snd.snd.snd.snd.snd.snd.snd.snd.snd.snd.snd.snd.snd.snd.snd.fst) : Int), (0 : Int)) = st2 (m, m.snd.snd.snd.snd.snd.snd.snd.snd.snd.snd.snd.snd.snd.snd.snd.fst, (↑(List.length m.snd.snd.snd.snd.snd.snd.snd.snd.snd.snd.snd.snd.snd.snd.snd.fst) : Int), (0 : Int)) ∧ (((0 : Int) ≤ (0 : Int)) ∧ (((0 : Int) ≤ (↑(List.length m.snd.snd.snd.snd.snd.snd.snd.snd.snd.snd.snd.snd.snd.snd.snd.fst) : Int)) ∧ (((↑(List.length m.snd.snd.snd.snd.snd.snd.snd.snd.snd.snd.snd.snd.snd.snd.snd.fst) : Int) = (↑(List.length m.snd.snd.snd.snd.snd.snd.snd.snd.snd.snd.snd.snd.snd.snd.snd.fst) : Int)) ∧ ((m.snd.snd.snd.snd.snd.snd.snd.snd.snd.snd.snd.snd.snd.snd.snd.fst = mSess m) ∧ ((List.length m.snd.snd.snd.snd.snd.snd.snd.snd.snd.snd.snd.snd.snd.snd.snd.fst ≤ LB) ∧ (bif (List.range' (Int.toNat (0 : Int)) (List.length m.snd.snd.snd.snd.snd.snd.snd.snd.snd.snd.snd.snd.snd.snd.snd.fst - Int.toNat (0 : Int))).all (okO m) then k (.v .bool (true)) else k (.v .bool (false)))))))))
theorem main (r : Unit) (m : D66) (k : AV → Prop) : (runFn C callF Tryz.f268 [.v .unit r, .v (.ptr (.pair (.int .u8) (.pair (.int .u64) (.pair (.int .u64) (.pair (.int .u64) (.pair (.sl (.int .u8)) (.pair (.sl (.int .u8)) (.pair .bool (.pair (.int .u8) (.pair (.int .u8) (.pair (.int .u8) (.pair (.int .u32) (.pair (.int .u32) (.pair (.int .u64) (.pair (.int .u8) (.pair (.sl (.pair (.int .u64) (.pair (.sl (.int .u8)) .unit))) (.pair (.sl (.pair (.int .u8) (.pair (.int .u64) (.pair (.int .u8) .unit)))) (.pair (.sl (.int .u8)) .unit)))))))))))))))))) m] [] (fun r H => coRes H [.bool] r k)) = Main r m k := by kernel_rfl
theorem loop2 (v : V2) (X : Nat → St → Prop) (R : St → Prop) : Q2 v X R → ∃ m, loopN C callF keep2 1 body2 ⟨0, [], fun _ => False, X, R⟩ m (st2 v) := by
  refine loop_ind (fun v => Q2 v X R) (fun (m, l, n, i) => l.length - i.toNat) ?_ v
  rintro ⟨m, l, n, i⟩ ⟨h0, h1, rfl, rfl, h2, h4⟩ N hN
  rw [round2]
  obtain ⟨j, rfl⟩ : ∃ a : Nat, i = a := ⟨i.toNat, by omega⟩
  dsimp only at hN
  rw [Int.toNat_natCast] at h4
  have h2' : (mSess m).length ≤ 1073741824 := h2
  refine bif_d (fun hj => ?_) (fun hj => ?_)
  · have hn : j < (mSess m).length := by omega
    rw [range_cons hn, List.all_cons] at h4
    rw [Int.toNat_natCast, w64n (by omega)]
    have bad : okO m j = false → R (s0 false) := fun e => by rw [e, Bool.false_and, cond_false] at h4; exact h4
    have good : okO m j = true → N (st2 (m, mSess m, ((mSess m).length : Int), ((j + 1 : Nat) : Int))) := fun e => by
      rw [e, Bool.true_and] at h4
      exact hN (m, mSess m, ((mSess m).length : Int), ((j + 1 : Nat) : Int)) ⟨by omega, by omega, rfl, rfl, h2, by rw [Int.toNat_natCast]; exact h4⟩ (by dsimp only; omega)
    refine ⟨by omega, by omega, bif_d (fun c => ?_) (fun c => good ?_)⟩
    · have e1 : IntKind.i64.wrap ((j : Int) - 1) = ((j - 1 : Nat) : Int) := by rw [w64 (by omega) (by omega)]; omega
      rw [e1, Int.toNat_natCast]
      refine ⟨by omega, by show ((j - 1 : Nat) : Int) < ((mSess m).length : Int); omega, bif_d (fun d => bad ?_) (fun d => good ?_)⟩
      · unfold okO; rw [decide_eq_true (show 0 < j by omega), decide_eq_true d]; rfl
      · unfold okO; rw [decide_eq_false d, Bool.and_false]; rfl
    · unfold okO; rw [decide_eq_false (show ¬ 0 < j by omega)]; rfl
  · rw [show (mSess m).length - j = 0 by omega] at h4
    exact h4
def val (m : D66) : Bool := (List.range' 0 (mSess m).length).all (okO m)
theorem spec (r : Unit) (m : D66) (k : AV → Prop) (h : AllP [(mSess m).length ≤ LB]) (hk : k (.v .bool (val m))) : Main r m k := by
  refine ⟨rfl, by omega, by omega, rfl, rfl, h.1, ?_⟩
  show bif val m then k _ else k _
  cases e : val m <;> (rw [e] at hk; exact hk)
noncomputable def ts : List Ty := [.unit, (.ptr T66)]
noncomputable def G : List AV → PV := pg2 .unit (.ptr T66) (fun r m => [(mSess m).length ≤ LB]) (fun r m => .v .bool (val m))
theorem loopsOK : LoopsOK C callF (bodyOf Tryz.f268) := loopsOK_seek (tbl := loops) (fun _ => rfl) (by kernel_rfl) (List.forall_mem_cons.2 ⟨mkL_ok loop2, fun _ h => nomatch h⟩)
theorem pursOK : ∀ g ts F, C.pur g = some (ts, F) → SoundP Tryz.prog g F := purOf_ok (l := purs) (fun _ h => nomatch h)
theorem cfsOK : ∀ g, SoundF Tryz.prog g (callF g) := fun g => soundF_none g
theorem ok : SoundP Tryz.prog 268 G := by
  unfold G
  refine soundP_pg2 (soundF_run (C := C) (callF := callF) (tabOK C rfl rfl rfl) cfsOK pursOK Tryz.func268 (by kernel_rfl) loopsOK) [.bool] fun r m h => ?_
  rw [main]
  exact spec r m _ h rfl
end F268

end Go.Proofs.YtmemeaaccgmeaaaGreat.W
