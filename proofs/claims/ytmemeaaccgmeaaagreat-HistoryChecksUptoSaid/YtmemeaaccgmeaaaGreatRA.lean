/- the document's message: parts -/
import Derived.Test.YtmemeaaccgmeaaaGreatDxTab
import Derived.Test.YtmemeaaccgmeaaaGreatDx3
import Derived.Test.YtmemeaaccgmeaaaGreatDxTy
import Derived.Test.YtmemeaaccgmeaaaGreatW
set_option linter.unusedVariables false
set_option maxRecDepth 100000
open Go Go.Proofs Go.Proofs.YtmemeaaccgmeaaaGreat.Dx Go.Proofs.YtmemeaaccgmeaaaGreat.Dx.TYtmemeaaccgmeaaaGreat
namespace Go.Proofs.YtmemeaaccgmeaaaGreat.RA
open W
namespace F99
noncomputable def purs : List (Nat × (List Ty × (List AV → PV))) := []
noncomputable def callF (g : FuncId) : CF := fun _ _ _ => False
noncomputable def loops : List (Nat × (List Nat × (K → Nat → St → Prop))) := []
noncomputable def C : Ctx := { ti := ti, meth := meth, can := can, pur := purOf purs, loops := fun i => seek loops i, gh := fun _ => [], rk := some ([4], 0) }
noncomputable def Main (a : (List Int)) (b : (List Int)) (k : AV → Prop) : Prop :=
  k (.v .bool ((strOf a).toList == (strOf b).toList))
theorem main (a : (List Int)) (b : (List Int)) (k : AV → Prop) : (runFn C callF Tryz.f99 [.v (.sl (.int .u8)) a, .v (.sl (.int .u8)) b] [] (fun r H => coRes H [.bool] r k)) = Main a b k := by kernel_rfl
def val (a : (List Int)) (b : (List Int)) : Bool :=
  ((strOf a).toList == (strOf b).toList)
def valAV (x : Bool) : AV := .v .bool x
theorem spec (a : (List Int)) (b : (List Int)) (k : AV → Prop) (_ : AllP []) (hk : k (.v .bool (val a b))) : Main a b k := (show (fun x => k (valAV x)) (val a b) → Main a b k from ((fun _ h => h) : True → (fun x => k (valAV x)) (val a b) → Main a b k) trivial) hk
noncomputable def ts : List Ty := [(.sl (.int .u8)), (.sl (.int .u8))]
noncomputable def G : List AV → PV := pg2 (.sl (.int .u8)) (.sl (.int .u8)) (fun a b => []) (fun a b => .v .bool (val a b))
theorem loopsOK : LoopsOK C callF (bodyOf Tryz.f99) := loopsOK_seek (tbl := loops) (fun _ => rfl) (by kernel_rfl) (fun _ h => nomatch h)
theorem pursOK : ∀ g ts F, C.pur g = some (ts, F) → SoundP Tryz.prog g F := purOf_ok (l := purs) (fun _ h => nomatch h)
theorem cfsOK : ∀ g, SoundF Tryz.prog g (callF g) := fun g => soundF_none g
theorem ok : SoundP Tryz.prog 99 G := by
  unfold G
  refine soundP_pg2 (soundF_run (C := C) (callF := callF) (tabOK C rfl rfl rfl) cfsOK pursOK Tryz.func99 (by kernel_rfl) loopsOK) [.bool] fun a b h => ?_
  rw [main]
  exact spec a b _ h rfl
end F99
namespace F129
noncomputable def purs : List (Nat × (List Ty × (List AV → PV))) := []
noncomputable def callF (g : FuncId) : CF := fun _ _ _ => False
noncomputable def loops : List (Nat × (List Nat × (K → Nat → St → Prop))) := []
noncomputable def C : Ctx := { ti := ti, meth := meth, can := can, pur := purOf purs, loops := fun i => seek loops i, gh := fun _ => [], rk := some ([2], 0) }
noncomputable def Main (m : D66) (k : AV → Prop) : Prop :=
  (bif IntKind.i64.wrap m.fst == (9 : Int) then (bif IntKind.i64.wrap m.snd.snd.snd.snd.snd.snd.snd.snd.fst == (1 : Int) then k (.v .bool (true)) else (bif decide (IntKind.i64.wrap m.snd.snd.snd.snd.snd.snd.snd.snd.fst ≥ (4 : Int)) then k (.v .bool (decide (IntKind.i64.wrap m.snd.snd.snd.snd.snd.snd.snd.snd.fst ≤ (10 : Int)))) else k (.v .bool (false)))) else (bif IntKind.i64.wrap m.snd.snd.snd.snd.snd.snd.snd.fst == (1 : Int) then (bif IntKind.i64.wrap m.snd.snd.snd.snd.snd.snd.snd.fst == (1 : Int) then (bif IntKind.i64.wrap m.snd.snd.snd.snd.snd.snd.snd.snd.fst == (1 : Int) then k (.v .bool (true)) else k (.v .bool (IntKind.i64.wrap m.snd.snd.snd.snd.snd.snd.snd.snd.fst == (2 : Int)))) else (bif IntKind.i64.wrap m.snd.snd.snd.snd.snd.snd.snd.fst == (2 : Int) then (bif IntKind.i64.wrap m.snd.snd.snd.snd.snd.snd.snd.snd.fst == (1 : Int) then k (.v .bool (true)) else k (.v .bool (IntKind.i64.wrap m.snd.snd.snd.snd.snd.snd.snd.snd.fst == (4 : Int)))) else (bif IntKind.i64.wrap m.snd.snd.snd.snd.snd.snd.snd.fst == (4 : Int) then (bif IntKind.i64.wrap m.snd.snd.snd.snd.snd.snd.snd.snd.fst == (1 : Int) then k (.v .bool (true)) else (bif IntKind.i64.wrap m.snd.snd.snd.snd.snd.snd.snd.snd.fst == (3 : Int) then k (.v .bool (true)) else k (.v .bool (IntKind.i64.wrap m.snd.snd.snd.snd.snd.snd.snd.snd.fst == (4 : Int))))) else k (.v .bool (IntKind.i64.wrap m.snd.snd.snd.snd.snd.snd.snd.snd.fst == (1 : Int)))))) else (bif IntKind.i64.wrap m.snd.snd.snd.snd.snd.snd.snd.fst == (3 : Int) then (bif IntKind.i64.wrap m.snd.snd.snd.snd.snd.snd.snd.snd.fst == (1 : Int) then k (.v .bool (true)) else k (.v .bool (IntKind.i64.wrap m.snd.snd.snd.snd.snd.snd.snd.snd.fst == (2 : Int)))) else (bif IntKind.i64.wrap m.snd.snd.snd.snd.snd.snd.snd.fst == (2 : Int) then (bif IntKind.i64.wrap m.snd.snd.snd.snd.snd.snd.snd.snd.fst == (1 : Int) then k (.v .bool (true)) else k (.v .bool (IntKind.i64.wrap m.snd.snd.snd.snd.snd.snd.snd.snd.fst == (4 : Int)))) else (bif IntKind.i64.wrap m.snd.snd.snd.snd.snd.snd.snd.fst == (4 : Int) then (bif IntKind.i64.wrap m.snd.snd.snd.snd.snd.snd.snd.snd.fst == (1 : Int) then k (.v .bool (true)) else (bif IntKind.i64.wrap m.snd.snd.snd.snd.snd.snd.snd.snd.fst == (3 : Int) then k (.v .bool (true)) else k (.v .bool (IntKind.i64.wrap m.snd.snd.snd.snd.snd.snd.snd.snd.fst == (4 : Int))))) else k (.v .bool (IntKind.i64.wrap m.snd.snd.snd.snd.snd.snd.snd.snd.fst == (1 : Int))))))))
theorem main (m : D66) (k : AV → Prop) : (runFn C callF Tryz.f129 [.v (.pair (.int .u8) (.pair (.int .u64) (.pair (.int .u64) (.pair (.int .u64) (.pair (.sl (.int .u8)) (.pair (.sl (.int .u8)) (.pair .bool (.pair (.int .u8) (.pair (.int .u8) (.pair (.int .u8) (.pair (.int .u32) (.pair (.int .u32) (.pair (.int .u64) (.pair (.int .u8) (.pair (.sl (.pair (.int .u64) (.pair (.sl (.int .u8)) .unit))) (.pair (.sl (.pair (.int .u8) (.pair (.int .u64) (.pair (.int .u8) .unit)))) (.pair (.sl (.int .u8)) .unit))))))))))))))))) m] [] (fun r H => coRes H [.bool] r k)) = Main m k := by kernel_rfl
def val (m : D66) : Bool :=
  (bif IntKind.i64.wrap m.fst == (9 : Int) then (bif IntKind.i64.wrap m.snd.snd.snd.snd.snd.snd.snd.snd.fst == (1 : Int) then (true) else (bif decide (IntKind.i64.wrap m.snd.snd.snd.snd.snd.snd.snd.snd.fst ≥ (4 : Int)) then (decide (IntKind.i64.wrap m.snd.snd.snd.snd.snd.snd.snd.snd.fst ≤ (10 : Int))) else (false))) else (bif IntKind.i64.wrap m.snd.snd.snd.snd.snd.snd.snd.fst == (1 : Int) then (bif IntKind.i64.wrap m.snd.snd.snd.snd.snd.snd.snd.fst == (1 : Int) then (bif IntKind.i64.wrap m.snd.snd.snd.snd.snd.snd.snd.snd.fst == (1 : Int) then (true) else (IntKind.i64.wrap m.snd.snd.snd.snd.snd.snd.snd.snd.fst == (2 : Int))) else (bif IntKind.i64.wrap m.snd.snd.snd.snd.snd.snd.snd.fst == (2 : Int) then (bif IntKind.i64.wrap m.snd.snd.snd.snd.snd.snd.snd.snd.fst == (1 : Int) then (true) else (IntKind.i64.wrap m.snd.snd.snd.snd.snd.snd.snd.snd.fst == (4 : Int))) else (bif IntKind.i64.wrap m.snd.snd.snd.snd.snd.snd.snd.fst == (4 : Int) then (bif IntKind.i64.wrap m.snd.snd.snd.snd.snd.snd.snd.snd.fst == (1 : Int) then (true) else (bif IntKind.i64.wrap m.snd.snd.snd.snd.snd.snd.snd.snd.fst == (3 : Int) then (true) else (IntKind.i64.wrap m.snd.snd.snd.snd.snd.snd.snd.snd.fst == (4 : Int)))) else (IntKind.i64.wrap m.snd.snd.snd.snd.snd.snd.snd.snd.fst == (1 : Int))))) else (bif IntKind.i64.wrap m.snd.snd.snd.snd.snd.snd.snd.fst == (3 : Int) then (bif IntKind.i64.wrap m.snd.snd.snd.snd.snd.snd.snd.snd.fst == (1 : Int) then (true) else (IntKind.i64.wrap m.snd.snd.snd.snd.snd.snd.snd.snd.fst == (2 : Int))) else (bif IntKind.i64.wrap m.snd.snd.snd.snd.snd.snd.snd.fst == (2 : Int) then (bif IntKind.i64.wrap m.snd.snd.snd.snd.snd.snd.snd.snd.fst == (1 : Int) then (true) else (IntKind.i64.wrap m.snd.snd.snd.snd.snd.snd.snd.snd.fst == (4 : Int))) else (bif IntKind.i64.wrap m.snd.snd.snd.snd.snd.snd.snd.fst == (4 : Int) then (bif IntKind.i64.wrap m.snd.snd.snd.snd.snd.snd.snd.snd.fst == (1 : Int) then (true) else (bif IntKind.i64.wrap m.snd.snd.snd.snd.snd.snd.snd.snd.fst == (3 : Int) then (true) else (IntKind.i64.wrap m.snd.snd.snd.snd.snd.snd.snd.snd.fst == (4 : Int)))) else (IntKind.i64.wrap m.snd.snd.snd.snd.snd.snd.snd.snd.fst == (1 : Int)))))))
def valAV (x : Bool) : AV := .v .bool x
theorem spec (m : D66) (k : AV → Prop) (_ : AllP []) (hk : k (.v .bool (val m))) : Main m k := (show (fun x => k (valAV x)) (val m) → Main m k from ((bif_pV (K := fun x => k (valAV x)) (bif_pV (K := fun x => k (valAV x)) (fun _ h => h) (bif_pV (K := fun x => k (valAV x)) (fun _ h => h) (fun _ h => h))) (bif_pV (K := fun x => k (valAV x)) (bif_pV (K := fun x => k (valAV x)) (bif_pV (K := fun x => k (valAV x)) (fun _ h => h) (fun _ h => h)) (bif_pV (K := fun x => k (valAV x)) (bif_pV (K := fun x => k (valAV x)) (fun _ h => h) (fun _ h => h)) (bif_pV (K := fun x => k (valAV x)) (bif_pV (K := fun x => k (valAV x)) (fun _ h => h) (bif_pV (K := fun x => k (valAV x)) (fun _ h => h) (fun _ h => h))) (fun _ h => h)))) (bif_pV (K := fun x => k (valAV x)) (bif_pV (K := fun x => k (valAV x)) (fun _ h => h) (fun _ h => h)) (bif_pV (K := fun x => k (valAV x)) (bif_pV (K := fun x => k (valAV x)) (fun _ h => h) (fun _ h => h)) (bif_pV (K := fun x => k (valAV x)) (bif_pV (K := fun x => k (valAV x)) (fun _ h => h) (bif_pV (K := fun x => k (valAV x)) (fun _ h => h) (fun _ h => h))) (fun _ h => h)))))) : True → (fun x => k (valAV x)) (val m) → Main m k) trivial) hk
noncomputable def ts : List Ty := [T66]
noncomputable def G : List AV → PV := pg1 T66 (fun m => []) (fun m => .v .bool (val m))
theorem loopsOK : LoopsOK C callF (bodyOf Tryz.f129) := loopsOK_seek (tbl := loops) (fun _ => rfl) (by kernel_rfl) (fun _ h => nomatch h)
theorem pursOK : ∀ g ts F, C.pur g = some (ts, F) → SoundP Tryz.prog g F := purOf_ok (l := purs) (fun _ h => nomatch h)
theorem cfsOK : ∀ g, SoundF Tryz.prog g (callF g) := fun g => soundF_none g
theorem ok : SoundP Tryz.prog 129 G := by
  unfold G
  refine soundP_pg1 (soundF_run (C := C) (callF := callF) (tabOK C rfl rfl rfl) cfsOK pursOK Tryz.func129 (by kernel_rfl) loopsOK) [.bool] fun m h => ?_
  rw [main]
  exact spec m _ h rfl
end F129
namespace F130
noncomputable def purs : List (Nat × (List Ty × (List AV → PV))) := []
noncomputable def callF (g : FuncId) : CF := fun _ _ _ => False
noncomputable def loops : List (Nat × (List Nat × (K → Nat → St → Prop))) := []
noncomputable def C : Ctx := { ti := ti, meth := meth, can := can, pur := purOf purs, loops := fun i => seek loops i, gh := fun _ => [], rk := some ([2], 0) }
noncomputable def Main (m : D66) (k : AV → Prop) : Prop :=
  (bif IntKind.i64.wrap m.fst == (6 : Int) then k (.v (.int .i64) ((16 : Int))) else k (.v (.int .i64) ((32 : Int))))
theorem main (m : D66) (k : AV → Prop) : (runFn C callF Tryz.f130 [.v (.pair (.int .u8) (.pair (.int .u64) (.pair (.int .u64) (.pair (.int .u64) (.pair (.sl (.int .u8)) (.pair (.sl (.int .u8)) (.pair .bool (.pair (.int .u8) (.pair (.int .u8) (.pair (.int .u8) (.pair (.int .u32) (.pair (.int .u32) (.pair (.int .u64) (.pair (.int .u8) (.pair (.sl (.pair (.int .u64) (.pair (.sl (.int .u8)) .unit))) (.pair (.sl (.pair (.int .u8) (.pair (.int .u64) (.pair (.int .u8) .unit)))) (.pair (.sl (.int .u8)) .unit))))))))))))))))) m] [] (fun r H => coRes H [(.int .i64)] r k)) = Main m k := by kernel_rfl
def val (m : D66) : Int :=
  (bif IntKind.i64.wrap m.fst == (6 : Int) then ((16 : Int)) else ((32 : Int)))
def valAV (x : Int) : AV := .v (.int .i64) x
theorem spec (m : D66) (k : AV → Prop) (_ : AllP []) (hk : k (.v (.int .i64) (val m))) : Main m k := (show (fun x => k (valAV x)) (val m) → Main m k from ((bif_pV (K := fun x => k (valAV x)) (fun _ h => h) (fun _ h => h)) : True → (fun x => k (valAV x)) (val m) → Main m k) trivial) hk
noncomputable def ts : List Ty := [T66]
noncomputable def G : List AV → PV := pg1 T66 (fun m => []) (fun m => .v (.int .i64) (val m))
theorem loopsOK : LoopsOK C callF (bodyOf Tryz.f130) := loopsOK_seek (tbl := loops) (fun _ => rfl) (by kernel_rfl) (fun _ h => nomatch h)
theorem pursOK : ∀ g ts F, C.pur g = some (ts, F) → SoundP Tryz.prog g F := purOf_ok (l := purs) (fun _ h => nomatch h)
theorem cfsOK : ∀ g, SoundF Tryz.prog g (callF g) := fun g => soundF_none g
theorem ok : SoundP Tryz.prog 130 G := by
  unfold G
  refine soundP_pg1 (soundF_run (C := C) (callF := callF) (tabOK C rfl rfl rfl) cfsOK pursOK Tryz.func130 (by kernel_rfl) loopsOK) [(.int .i64)] fun m h => ?_
  rw [main]
  exact spec m _ h rfl
end F130
namespace F85
abbrev V4 := (List D118) × (List D118) × Int
noncomputable def st4 (v : V4) : St := ⟨[.v (.sl T118) (v.1), .v (.sl T118) (v.2.1), .dead, .dead, .dead, .v (.int .i64) (v.2.2), .dead, .dead, .dead, .dead, .dead, .dead, .dead, .dead, .dead, .dead, .dead, .dead, .dead, .dead, .dead, .dead, .dead, .dead, .dead, .dead, .dead, .dead, .dead, .dead, .dead, .dead, .dead, .dead, .dead, .dead, .dead, .dead, .dead, .dead, .dead, .dead, .dead, .dead], []⟩
noncomputable def dec4 (s : St) : Option V4 := match gV (.sl T118) (s.T.getD 0 .dead), gV (.sl T118) (s.T.getD 1 .dead), gV (.int .i64) (s.T.getD 5 .dead) with | some a0, some a1, some a5 => some (a0, a1, a5) | _, _, _ => none
noncomputable def keep4 : List Nat := [0, 1, 5]
noncomputable def body4 : Code := bodyAt (loopsOf (bodyOf Tryz.f85)) 4
noncomputable def s0 (x4 : Bool) : St := ⟨[.dead, .dead, .dead, .dead, .v .bool x4, .dead, .dead, .dead, .dead, .dead, .dead, .dead, .dead, .dead, .dead, .dead, .dead, .dead, .dead, .dead, .dead, .dead, .dead, .dead, .dead, .dead, .dead, .dead, .dead, .dead, .dead, .dead, .dead, .dead, .dead, .dead, .dead, .dead, .dead, .dead, .dead, .dead, .dead, .dead], []⟩
noncomputable def s1 : St := ⟨[.dead, .dead, .dead, .dead, .dead, .dead, .dead, .dead, .dead, .dead, .dead, .dead, .dead, .dead, .dead, .dead, .dead, .dead, .dead, .dead, .dead, .dead, .dead, .dead, .dead, .dead, .dead, .dead, .dead, .dead, .dead, .dead, .dead, .dead, .dead, .dead, .dead, .dead, .dead, .dead, .dead, .dead, .dead, .dead], []⟩
def Q4 : V4 → (Nat → St → Prop) → (St → Prop) → Prop := fun (a, b, i) X R => 0 ≤ i ∧ i ≤ a.length ∧ a.length ≤ LB ∧ a = b ∧ X 0 s1
noncomputable def purs : List (Nat × (List Ty × (List AV → PV))) := [(99, (Go.Proofs.YtmemeaaccgmeaaaGreat.RA.F99.ts, Go.Proofs.YtmemeaaccgmeaaaGreat.RA.F99.G))]
noncomputable def callF (g : FuncId) : CF := fun _ _ _ => False
noncomputable def L4 : K → Nat → St → Prop := mkL dec4 st4 0 0 [] Q4
noncomputable def loops : List (Nat × (List Nat × (K → Nat → St → Prop))) := [(4, (keep4, L4))]
noncomputable def C : Ctx := { ti := ti, meth := meth, can := can, pur := purOf purs, loops := fun i => seek loops i, gh := fun _ => [], xk := fun i => seek [(0, ([], 0))] i, rk := some ([4], 0) }
noncomputable def Round4 (x0 : (List D118)) (x1 : (List D118)) (x5 : Int) (N : St → Prop) (X : Nat → St → Prop) (R : St → Prop) : Prop :=
  (bif decide (x5 < (↑x0.length : Int)) then (((0 : Int) ≤ x5) ∧ ((x5 < (↑x0.length : Int)) ∧ (((0 : Int) ≤ x5) ∧ ((x5 < (↑x1.length : Int)) ∧ (((0 : Int) ≤ x5) ∧ ((x5 < (↑x0.length : Int)) ∧ (((0 : Int) ≤ x5) ∧ ((x5 < (↑x1.length : Int)) ∧ (bif (x0.getD x5.toNat d118).fst != (x1.getD x5.toNat d118).fst then R (s0 (false)) else (bif !F99.val (x0.getD x5.toNat d118).snd.fst (x1.getD x5.toNat d118).snd.fst then R (s0 (false)) else N (st4 (x0, x1, IntKind.i64.wrap (x5 + (1 : Int)))))))))))))) else X 0 (s1))
theorem round4 (x0 : (List D118)) (x1 : (List D118)) (x5 : Int) (N : St → Prop) (X : Nat → St → Prop) (R : St → Prop) : exec C callF body4 ⟨0, [0], fun s' => cond (Nat.ble 0 s'.H.length) (N (scrub keep4 0 s')) False, X, R⟩ (st4 (x0, x1, x5)) = Round4 x0 x1 x5 N X R := by kernel_rfl
noncomputable def Main (a : (List D118)) (b : (List D118)) (k : AV → Prop) : Prop :=
  (bif (↑a.length : Int) != (↑b.length : Int) then k (.v .bool (false)) else (st4 (a, b, (0 : Int)) = st4 (a, b, (0 : Int)) ∧ (((0 : Int) ≤ (0 : Int)) ∧ (((0 : Int) ≤ (↑a.length : Int)) ∧ ((a.length ≤ LB) ∧ ((a = b) ∧ k (.v .bool (true))))))))
theorem main (a : (List D118)) (b : (List D118)) (k : AV → Prop) : (runFn C callF Tryz.f85 [.v (.sl (.pair (.int .u64) (.pair (.sl (.int .u8)) .unit))) a, .v (.sl (.pair (.int .u64) (.pair (.sl (.int .u8)) .unit))) b] [] (fun r H => coRes H [.bool] r k)) = Main a b k := by kernel_rfl
theorem loop4 (v : V4) (X : Nat → St → Prop) (R : St → Prop) : Q4 v X R → ∃ m, loopN C callF keep4 0 body4 ⟨0, [], fun _ => False, X, R⟩ m (st4 v) := by
  refine loop_ind (fun v => Q4 v X R) (fun (a, b, i) => a.length - i.toNat) ?_ v
  rintro ⟨a, b, i⟩ ⟨h0, h1, h2, rfl, h4⟩ N hN
  rw [round4]
  obtain ⟨j, rfl⟩ : ∃ a : Nat, i = a := ⟨i.toNat, by omega⟩
  dsimp only at hN
  have h2' : a.length ≤ 1073741824 := h2
  refine bif_d (fun hj => ?_) (fun hj => h4)
  rw [w64n (by omega)]
  refine ⟨by omega, by omega, by omega, by omega, by omega, by omega, by omega, by omega, bif_f (by simp) (bif_f ?_ ?_)⟩
  · unfold F99.val; simp
  · exact hN (a, a, ((j + 1 : Nat) : Int)) ⟨by omega, by omega, h2, rfl, h4⟩ (by dsimp only; omega)
/-- Of a list held against itself, or against none. -/
def val (a b : List D118) : Bool := (a.length : Int) == (b.length : Int)
theorem spec (a b : List D118) (k : AV → Prop) (h : AllP [b = [] ∨ a = b, a.length ≤ LB]) (hk : k (.v .bool (val a b))) : Main a b k := by
  obtain ⟨h1, h2, _⟩ := h
  unfold val at hk
  refine bif_i (fun e => ?_) (fun e => ⟨rfl, by omega, by omega, h2, ?_, ?_⟩)
  · rw [show ((a.length : Int) == (b.length : Int)) = false by simpa [bne] using e] at hk; exact hk
  · have he : a.length = b.length := by
      have : (a.length : Int) = (b.length : Int) := by simpa using e
      omega
    rcases h1 with rfl | h1
    · exact List.eq_nil_of_length_eq_zero he
    · exact h1
  · rw [show ((a.length : Int) == (b.length : Int)) = true by simpa using e] at hk; exact hk
noncomputable def ts : List Ty := [(.sl T118), (.sl T118)]
noncomputable def G : List AV → PV := pg2 (.sl T118) (.sl T118) (fun a b => [b = [] ∨ a = b, a.length ≤ LB]) (fun a b => .v .bool (val a b))
theorem loopsOK : LoopsOK C callF (bodyOf Tryz.f85) := loopsOK_seek (tbl := loops) (fun _ => rfl) (by kernel_rfl) (List.forall_mem_cons.2 ⟨mkL_ok loop4, fun _ h => nomatch h⟩)
theorem pursOK : ∀ g ts F, C.pur g = some (ts, F) → SoundP Tryz.prog g F := purOf_ok (l := purs) (List.forall_mem_cons.2 ⟨Go.Proofs.YtmemeaaccgmeaaaGreat.RA.F99.ok, fun _ h => nomatch h⟩)
theorem cfsOK : ∀ g, SoundF Tryz.prog g (callF g) := fun g => soundF_none g
theorem ok : SoundP Tryz.prog 85 G := by
  unfold G
  refine soundP_pg2 (soundF_run (C := C) (callF := callF) (tabOK C rfl rfl rfl) cfsOK pursOK Tryz.func85 (by kernel_rfl) loopsOK) [.bool] fun a b h => ?_
  rw [main]
  exact spec a b _ h rfl
end F85
namespace F100
abbrev V4 := (List D187) × (List D187) × Int
noncomputable def st4 (v : V4) : St := ⟨[.v (.sl T187) (v.1), .v (.sl T187) (v.2.1), .dead, .dead, .dead, .v (.int .i64) (v.2.2), .dead, .dead, .dead, .dead, .dead, .dead, .dead, .dead, .dead, .dead, .dead, .dead, .dead, .dead, .dead, .dead, .dead, .dead, .dead, .dead], []⟩
noncomputable def dec4 (s : St) : Option V4 := match gV (.sl T187) (s.T.getD 0 .dead), gV (.sl T187) (s.T.getD 1 .dead), gV (.int .i64) (s.T.getD 5 .dead) with | some a0, some a1, some a5 => some (a0, a1, a5) | _, _, _ => none
noncomputable def keep4 : List Nat := [0, 1, 5]
noncomputable def body4 : Code := bodyAt (loopsOf (bodyOf Tryz.f100)) 4
noncomputable def s0 : St := ⟨[.dead, .dead, .dead, .dead, .dead, .dead, .dead, .dead, .dead, .dead, .dead, .dead, .dead, .dead, .dead, .dead, .dead, .dead, .dead, .dead, .dead, .dead, .dead, .dead, .dead, .dead], []⟩
def Q4 : V4 → (Nat → St → Prop) → (St → Prop) → Prop := fun (a, b, i) X R => 0 ≤ i ∧ a = [] ∧ X 0 s0
noncomputable def purs : List (Nat × (List Ty × (List AV → PV))) := []
noncomputable def callF (g : FuncId) : CF := fun _ _ _ => False
noncomputable def L4 : K → Nat → St → Prop := mkL dec4 st4 0 0 [] Q4
noncomputable def loops : List (Nat × (List Nat × (K → Nat → St → Prop))) := [(4, (keep4, L4))]
noncomputable def C : Ctx := { ti := ti, meth := meth, can := can, pur := purOf purs, loops := fun i => seek loops i, gh := fun _ => [], xk := fun i => seek [(0, ([], 0))] i, rk := some ([4], 0) }
noncomputable def Round4 (x0 : (List D187)) (x1 : (List D187)) (x5 : Int) (N : St → Prop) (X : Nat → St → Prop) (R : St → Prop) : Prop :=
  (bif decide (x5 < (↑x0.length : Int)) then (((0 : Int) ≤ x5) ∧ ((x5 < (↑x0.length : Int)) ∧ (((0 : Int) ≤ x5) ∧ ((x5 < (↑x1.length : Int)) ∧ ((False) ∧ False))))) else X 0 (s0))
theorem round4 (x0 : (List D187)) (x1 : (List D187)) (x5 : Int) (N : St → Prop) (X : Nat → St → Prop) (R : St → Prop) : exec C callF body4 ⟨0, [0], fun s' => cond (Nat.ble 0 s'.H.length) (N (scrub keep4 0 s')) False, X, R⟩ (st4 (x0, x1, x5)) = Round4 x0 x1 x5 N X R := by kernel_rfl
noncomputable def Main (a : (List D187)) (b : (List D187)) (k : AV → Prop) : Prop :=
  (bif (↑a.length : Int) != (↑b.length : Int) then k (.v .bool (false)) else (st4 (a, b, (0 : Int)) = st4 (a, b, (0 : Int)) ∧ (((0 : Int) ≤ (0 : Int)) ∧ ((a = []) ∧ k (.v .bool (true))))))
theorem main (a : (List D187)) (b : (List D187)) (k : AV → Prop) : (runFn C callF Tryz.f100 [.v (.sl (.pair (.int .u8) (.pair (.int .u64) (.pair (.int .u8) .unit)))) a, .v (.sl (.pair (.int .u8) (.pair (.int .u64) (.pair (.int .u8) .unit)))) b] [] (fun r H => coRes H [.bool] r k)) = Main a b k := by kernel_rfl
theorem loop4 (v : V4) (X : Nat → St → Prop) (R : St → Prop) : Q4 v X R → ∃ m, loopN C callF keep4 0 body4 ⟨0, [], fun _ => False, X, R⟩ m (st4 v) := by
  refine loop_ind (fun v => Q4 v X R) (fun (a, b, i) => 0) ?_ v
  rintro ⟨a, b, i⟩ ⟨h0, rfl, h4⟩ N hN
  rw [round4]
  exact bif_d (fun hj => absurd (show i < 0 from hj) (by omega)) (fun hj => h4)
/-- Of a list held against none. -/
def val (a b : List D187) : Bool := (a.length : Int) == (b.length : Int)
theorem spec (a b : List D187) (k : AV → Prop) (h : AllP [b = []]) (hk : k (.v .bool (val a b))) : Main a b k := by
  obtain ⟨rfl, _⟩ := h
  unfold val at hk
  refine bif_i (fun e => ?_) (fun e => ⟨rfl, by omega, ?_, ?_⟩)
  · rw [show ((a.length : Int) == (([] : List D187).length : Int)) = false by simpa [bne] using e] at hk; exact hk
  · exact List.eq_nil_of_length_eq_zero (by have : (a.length : Int) = ((0 : Nat) : Int) := by simpa using e
                                            omega)
  · rw [show ((a.length : Int) == (([] : List D187).length : Int)) = true by simpa using e] at hk; exact hk
noncomputable def ts : List Ty := [(.sl T187), (.sl T187)]
noncomputable def G : List AV → PV := pg2 (.sl T187) (.sl T187) (fun a b => [b = []]) (fun a b => .v .bool (val a b))
theorem loopsOK : LoopsOK C callF (bodyOf Tryz.f100) := loopsOK_seek (tbl := loops) (fun _ => rfl) (by kernel_rfl) (List.forall_mem_cons.2 ⟨mkL_ok loop4, fun _ h => nomatch h⟩)
theorem pursOK : ∀ g ts F, C.pur g = some (ts, F) → SoundP Tryz.prog g F := purOf_ok (l := purs) (fun _ h => nomatch h)
theorem cfsOK : ∀ g, SoundF Tryz.prog g (callF g) := fun g => soundF_none g
theorem ok : SoundP Tryz.prog 100 G := by
  unfold G
  refine soundP_pg2 (soundF_run (C := C) (callF := callF) (tabOK C rfl rfl rfl) cfsOK pursOK Tryz.func100 (by kernel_rfl) loopsOK) [.bool] fun a b h => ?_
  rw [main]
  exact spec a b _ h rfl
end F100
namespace F95
abbrev V26 := Int × D66
noncomputable def st26 (v : V26) : St := ⟨[.dead, .dead, .v .ref (.ptr 0 []), .dead, .dead, .v (.int .i64) (v.1), .dead, .dead, .dead, .dead, .dead, .dead, .dead, .dead, .dead, .dead, .dead, .dead, .dead, .dead, .dead, .dead, .dead, .dead, .dead, .dead, .dead, .dead, .dead, .dead, .dead, .dead, .dead, .dead, .dead, .dead, .dead, .dead, .dead, .dead, .dead, .dead, .dead, .dead, .dead, .dead, .dead, .dead, .dead, .dead, .dead, .dead, .dead, .dead, .dead, .dead, .dead, .dead, .dead, .dead, .dead, .dead, .dead, .dead, .dead, .dead, .dead, .dead, .dead, .dead, .dead, .dead, .dead, .dead, .dead, .dead, .dead, .dead, .dead, .dead, .dead, .dead, .dead, .dead, .dead, .dead, .dead, .dead, .dead, .dead, .dead, .dead, .dead, .dead, .dead, .dead, .dead, .dead, .dead, .dead, .dead, .dead, .dead, .dead, .dead, .dead, .dead, .dead, .dead, .dead, .dead, .dead, .dead, .dead, .dead, .dead, .dead, .dead, .dead, .dead, .dead, .dead, .dead, .dead, .dead, .dead, .dead, .dead, .dead, .dead, .dead, .dead, .dead, .dead, .dead, .dead, .dead, .dead, .dead, .dead, .dead, .dead, .dead, .dead, .dead, .dead, .dead, .dead, .dead, .dead, .dead, .dead, .dead, .dead, .dead, .dead, .dead, .dead, .dead, .dead, .dead, .dead, .dead, .dead, .dead, .dead, .dead, .dead], [.var T66 (v.2) 66]⟩
noncomputable def dec26 (s : St) : Option V26 := match gV (.int .i64) (s.T.getD 5 .dead), gVar T66 s.H[0]? with | some a5, some b0 => some (a5, b0) | _, _ => none
noncomputable def keep26 : List Nat := [2, 5]
noncomputable def body26 : Code := bodyAt (loopsOf (bodyOf Tryz.f95)) 26
abbrev V34 := Int × D66
noncomputable def st34 (v : V34) : St := ⟨[.dead, .dead, .v .ref (.ptr 0 []), .dead, .dead, .dead, .dead, .v (.int .i64) (v.1), .dead, .dead, .dead, .dead, .dead, .dead, .dead, .dead, .dead, .dead, .dead, .dead, .dead, .dead, .dead, .dead, .dead, .dead, .dead, .dead, .dead, .dead, .dead, .dead, .dead, .dead, .dead, .dead, .dead, .dead, .dead, .dead, .dead, .dead, .dead, .dead, .dead, .dead, .dead, .dead, .dead, .dead, .dead, .dead, .dead, .dead, .dead, .dead, .dead, .dead, .dead, .dead, .dead, .dead, .dead, .dead, .dead, .dead, .dead, .dead, .dead, .dead, .dead, .dead, .dead, .dead, .dead, .dead, .dead, .dead, .dead, .dead, .dead, .dead, .dead, .dead, .dead, .dead, .dead, .dead, .dead, .dead, .dead, .dead, .dead, .dead, .dead, .dead, .dead, .dead, .dead, .dead, .dead, .dead, .dead, .dead, .dead, .dead, .dead, .dead, .dead, .dead, .dead, .dead, .dead, .dead, .dead, .dead, .dead, .dead, .dead, .dead, .dead, .dead, .dead, .dead, .dead, .dead, .dead, .dead, .dead, .dead, .dead, .dead, .dead, .dead, .dead, .dead, .dead, .dead, .dead, .dead, .dead, .dead, .dead, .dead, .dead, .dead, .dead, .dead, .dead, .dead, .dead, .dead, .dead, .dead, .dead, .dead, .dead, .dead, .dead, .dead, .dead, .dead, .dead, .dead, .dead, .dead, .dead, .dead], [.var T66 (v.2) 66]⟩
noncomputable def dec34 (s : St) : Option V34 := match gV (.int .i64) (s.T.getD 7 .dead), gVar T66 s.H[0]? with | some a7, some b0 => some (a7, b0) | _, _ => none
noncomputable def keep34 : List Nat := [2, 7]
noncomputable def body34 : Code := bodyAt (loopsOf (bodyOf Tryz.f95)) 34
noncomputable def s0 (x4 : Bool) : St := ⟨[.dead, .dead, .dead, .dead, .v .bool x4, .dead, .dead, .dead, .dead, .dead, .dead, .dead, .dead, .dead, .dead, .dead, .dead, .dead, .dead, .dead, .dead, .dead, .dead, .dead, .dead, .dead, .dead, .dead, .dead, .dead, .dead, .dead, .dead, .dead, .dead, .dead, .dead, .dead, .dead, .dead, .dead, .dead, .dead, .dead, .dead, .dead, .dead, .dead, .dead, .dead, .dead, .dead, .dead, .dead, .dead, .dead, .dead, .dead, .dead, .dead, .dead, .dead, .dead, .dead, .dead, .dead, .dead, .dead, .dead, .dead, .dead, .dead, .dead, .dead, .dead, .dead, .dead, .dead, .dead, .dead, .dead, .dead, .dead, .dead, .dead, .dead, .dead, .dead, .dead, .dead, .dead, .dead, .dead, .dead, .dead, .dead, .dead, .dead, .dead, .dead, .dead, .dead, .dead, .dead, .dead, .dead, .dead, .dead, .dead, .dead, .dead, .dead, .dead, .dead, .dead, .dead, .dead, .dead, .dead, .dead, .dead, .dead, .dead, .dead, .dead, .dead, .dead, .dead, .dead, .dead, .dead, .dead, .dead, .dead, .dead, .dead, .dead, .dead, .dead, .dead, .dead, .dead, .dead, .dead, .dead, .dead, .dead, .dead, .dead, .dead, .dead, .dead, .dead, .dead, .dead, .dead, .dead, .dead, .dead, .dead, .dead, .dead, .dead, .dead, .dead, .dead, .dead, .dead], []⟩
noncomputable def s1 (h0 : D66) : St := ⟨[.dead, .dead, .v .ref (.ptr 0 []), .dead, .dead, .dead, .dead, .dead, .dead, .dead, .dead, .dead, .dead, .dead, .dead, .dead, .dead, .dead, .dead, .dead, .dead, .dead, .dead, .dead, .dead, .dead, .dead, .dead, .dead, .dead, .dead, .dead, .dead, .dead, .dead, .dead, .dead, .dead, .dead, .dead, .dead, .dead, .dead, .dead, .dead, .dead, .dead, .dead, .dead, .dead, .dead, .dead, .dead, .dead, .dead, .dead, .dead, .dead, .dead, .dead, .dead, .dead, .dead, .dead, .dead, .dead, .dead, .dead, .dead, .dead, .dead, .dead, .dead, .dead, .dead, .dead, .dead, .dead, .dead, .dead, .dead, .dead, .dead, .dead, .dead, .dead, .dead, .dead, .dead, .dead, .dead, .dead, .dead, .dead, .dead, .dead, .dead, .dead, .dead, .dead, .dead, .dead, .dead, .dead, .dead, .dead, .dead, .dead, .dead, .dead, .dead, .dead, .dead, .dead, .dead, .dead, .dead, .dead, .dead, .dead, .dead, .dead, .dead, .dead, .dead, .dead, .dead, .dead, .dead, .dead, .dead, .dead, .dead, .dead, .dead, .dead, .dead, .dead, .dead, .dead, .dead, .dead, .dead, .dead, .dead, .dead, .dead, .dead, .dead, .dead, .dead, .dead, .dead, .dead, .dead, .dead, .dead, .dead, .dead, .dead, .dead, .dead, .dead, .dead, .dead, .dead, .dead, .dead], [.var T66 h0 66]⟩
def okS (p : D187) : Bool := !decide (p.1 < 16) && (!decide (p.1 > 31) && (!(p.2.1 == 0) && (!decide (p.2.2.1 < 1) && !decide (p.2.2.1 > 4))))
def Q26 : V26 → (Nat → St → Prop) → (St → Prop) → Prop := fun (x5, h0) X R => 0 ≤ x5 ∧ x5 ≤ h0.2.2.2.2.2.2.2.2.2.2.2.2.2.2.1.length ∧ h0.2.2.2.2.2.2.2.2.2.2.2.2.2.2.1.length ≤ LB ∧ True ∧ (True) ∧ bif (h0.2.2.2.2.2.2.2.2.2.2.2.2.2.2.1.drop x5.toNat).all (fun p => !decide ((p.2.1.length : Int) > 64)) then X 1 (s1 h0) else R (s0 false)
def Q34 : V34 → (Nat → St → Prop) → (St → Prop) → Prop := fun (x7, h0) X R => 0 ≤ x7 ∧ x7 ≤ h0.2.2.2.2.2.2.2.2.2.2.2.2.2.2.2.1.length ∧ h0.2.2.2.2.2.2.2.2.2.2.2.2.2.2.2.1.length ≤ LB ∧ True ∧ (True) ∧ bif (h0.2.2.2.2.2.2.2.2.2.2.2.2.2.2.2.1.drop x7.toNat).all (okS) then X 3 (s1 h0) else R (s0 false)
noncomputable def purs : List (Nat × (List Ty × (List AV → PV))) := [(129, (Go.Proofs.YtmemeaaccgmeaaaGreat.RA.F129.ts, Go.Proofs.YtmemeaaccgmeaaaGreat.RA.F129.G)), (130, (Go.Proofs.YtmemeaaccgmeaaaGreat.RA.F130.ts, Go.Proofs.YtmemeaaccgmeaaaGreat.RA.F130.G))]
noncomputable def callF (g : FuncId) : CF := fun _ _ _ => False
noncomputable def L26 : K → Nat → St → Prop := mkL dec26 st26 0 1 [] Q26
noncomputable def L34 : K → Nat → St → Prop := mkL dec34 st34 0 1 [] Q34
noncomputable def loops : List (Nat × (List Nat × (K → Nat → St → Prop))) := [(26, (keep26, L26)), (34, (keep34, L34))]
noncomputable def C : Ctx := { ti := ti, meth := meth, can := can, pur := purOf purs, loops := fun i => seek loops i, gh := fun _ => [], xk := fun i => seek [(1, ([2], 0)), (3, ([2], 0))] i, rk := some ([4], 0) }
noncomputable def Round26 (x5 : Int) (h0 : D66) (N : St → Prop) (X : Nat → St → Prop) (R : St → Prop) : Prop :=
  (bif decide (x5 < (↑(List.length h0.snd.snd.snd.snd.snd.snd.snd.snd.snd.snd.snd.snd.snd.snd.fst) : Int)) then (((0 : Int) ≤ x5) ∧ ((x5 < (↑(List.length h0.snd.snd.snd.snd.snd.snd.snd.snd.snd.snd.snd.snd.snd.snd.fst) : Int)) ∧ (bif decide ((↑(List.length (List.getD h0.snd.snd.snd.snd.snd.snd.snd.snd.snd.snd.snd.snd.snd.snd.fst x5.toNat d118).snd.fst) : Int) > (64 : Int)) then R (s0 (false)) else N (st26 (IntKind.i64.wrap (x5 + (1 : Int)), h0))))) else X 1 (s1 (h0)))
theorem round26 (x5 : Int) (h0 : D66) (N : St → Prop) (X : Nat → St → Prop) (R : St → Prop) : exec C callF body26 ⟨0, [1], fun s' => cond (Nat.ble 1 s'.H.length) (N (scrub keep26 1 s')) False, X, R⟩ (st26 (x5, h0)) = Round26 x5 h0 N X R := by kernel_rfl
noncomputable def Round34 (x7 : Int) (h0 : D66) (N : St → Prop) (X : Nat → St → Prop) (R : St → Prop) : Prop :=
  (bif decide (x7 < (↑(List.length h0.snd.snd.snd.snd.snd.snd.snd.snd.snd.snd.snd.snd.snd.snd.snd.fst) : Int)) then (((0 : Int) ≤ x7) ∧ ((x7 < (↑(List.length h0.snd.snd.snd.snd.snd.snd.snd.snd.snd.snd.snd.snd.snd.snd.snd.fst) : Int)) ∧ (bif decide ((List.getD h0.snd.snd.snd.snd.snd.snd.snd.snd.snd.snd.snd.snd.snd.snd.snd.fst x7.toNat d187).fst < (16 : Int)) then R (s0 (false)) else (bif decide ((List.getD h0.snd.snd.snd.snd.snd.snd.snd.snd.snd.snd.snd.snd.snd.snd.snd.fst x7.toNat d187).fst > (31 : Int)) then R (s0 (false)) else (bif (List.getD h0.snd.snd.snd.snd.snd.snd.snd.snd.snd.snd.snd.snd.snd.snd.snd.fst x7.toNat d187).snd.fst == (0 : Int) then R (s0 (false)) else (bif decide ((List.getD h0.snd.snd.snd.snd.snd.snd.snd.snd.snd.snd.snd.snd.snd.snd.snd.fst x7.toNat d187).snd.snd.fst < (1 : Int)) then R (s0 (false)) else (bif decide ((List.getD h0.snd.snd.snd.snd.snd.snd.snd.snd.snd.snd.snd.snd.snd.snd.snd.fst x7.toNat d187).snd.snd.fst > (4 : Int)) then R (s0 (false)) else N (st34 (IntKind.i64.wrap (x7 + (1 : Int)), h0))))))))) else X 3 (s1 (h0)))
theorem round34 (x7 : Int) (h0 : D66) (N : St → Prop) (X : Nat → St → Prop) (R : St → Prop) : exec C callF body34 ⟨0, [1], fun s' => cond (Nat.ble 1 s'.H.length) (N (scrub keep34 1 s')) False, X, R⟩ (st34 (x7, h0)) = Round34 x7 h0 N X R := by kernel_rfl
noncomputable def Main (m : D66) (f : Int) (k : AV → Prop) : Prop :=
  (bif f == (1 : Int) then (bif decide (m.snd.fst > (0 : Int)) then k (.v .bool (true)) else k (.v .bool (IntKind.i64.wrap m.fst == (11 : Int)))) else (bif f == (3 : Int) then k (.v .bool (decide (m.snd.snd.fst ≤ m.snd.snd.snd.fst))) else (bif f == (4 : Int) then k (.v .bool (decide ((↑(List.length m.snd.snd.snd.snd.fst) : Int) ≤ (64 : Int)))) else (bif f == (5 : Int) then (bif decide ((↑(List.length m.snd.snd.snd.snd.snd.fst) : Int) ≤ (64 : Int)) then (bif m.snd.snd.snd.snd.snd.snd.fst then k (.v .bool (true)) else k (.v .bool ((↑(List.length m.snd.snd.snd.snd.snd.fst) : Int) == (0 : Int)))) else k (.v .bool (false))) else (bif f == (6 : Int) then (bif decide (m.snd.snd.snd.snd.snd.snd.snd.snd.snd.snd.snd.snd.snd.fst > (0 : Int)) then k (.v .bool (decide (m.snd.snd.snd.snd.snd.snd.snd.snd.snd.snd.snd.snd.snd.fst ≤ (16 : Int)))) else k (.v .bool (false))) else (bif f == (7 : Int) then (bif decide (IntKind.i64.wrap m.snd.snd.snd.snd.snd.snd.snd.fst ≥ (1 : Int)) then k (.v .bool (decide (IntKind.i64.wrap m.snd.snd.snd.snd.snd.snd.snd.fst ≤ (5 : Int)))) else k (.v .bool (false))) else (bif f == (8 : Int) then k (.v .bool (F129.val m)) else (bif f == (9 : Int) then k (.v .bool (decide (m.snd.snd.snd.snd.snd.snd.snd.snd.snd.fst ≤ (15 : Int)))) else (bif f == (10 : Int) then k (.v .bool (decide (m.snd.snd.snd.snd.snd.snd.snd.snd.snd.snd.fst ≤ (65535 : Int)))) else (bif f == (11 : Int) then k (.v .bool (decide (m.snd.snd.snd.snd.snd.snd.snd.snd.snd.snd.snd.fst ≤ (65535 : Int)))) else (bif f == (13 : Int) then (bif decide ((↑(List.length m.snd.snd.snd.snd.snd.snd.snd.snd.snd.snd.snd.snd.snd.snd.snd.snd.fst) : Int) > (0 : Int)) then k (.v .bool (decide ((↑(List.length m.snd.snd.snd.snd.snd.snd.snd.snd.snd.snd.snd.snd.snd.snd.snd.snd.fst) : Int) ≤ (3072 : Int)))) else k (.v .bool (false))) else (bif f == (14 : Int) then (st26 ((0 : Int), m) = st26 ((0 : Int), m) ∧ (((0 : Int) ≤ (0 : Int)) ∧ (((0 : Int) ≤ (↑m.snd.snd.snd.snd.snd.snd.snd.snd.snd.snd.snd.snd.snd.snd.fst.length : Int)) ∧ ((m.snd.snd.snd.snd.snd.snd.snd.snd.snd.snd.snd.snd.snd.snd.fst.length ≤ LB) ∧ ((True) ∧ ((True) ∧ (bif m.snd.snd.snd.snd.snd.snd.snd.snd.snd.snd.snd.snd.snd.snd.fst.all fun (p : Int × List Int × Unit) => !decide ((↑p.snd.fst.length : Int) > (64 : Int)) then k (.v .bool (decide ((↑(List.length m.snd.snd.snd.snd.snd.snd.snd.snd.snd.snd.snd.snd.snd.snd.fst) : Int) ≤ F130.val m))) else k (.v .bool (false))))))))) else (bif f == (15 : Int) then (st34 ((0 : Int), m) = st34 ((0 : Int), m) ∧ (((0 : Int) ≤ (0 : Int)) ∧ (((0 : Int) ≤ (↑m.snd.snd.snd.snd.snd.snd.snd.snd.snd.snd.snd.snd.snd.snd.snd.fst.length : Int)) ∧ ((m.snd.snd.snd.snd.snd.snd.snd.snd.snd.snd.snd.snd.snd.snd.snd.fst.length ≤ LB) ∧ ((True) ∧ ((True) ∧ (bif m.snd.snd.snd.snd.snd.snd.snd.snd.snd.snd.snd.snd.snd.snd.snd.fst.all okS then k (.v .bool (decide ((↑(List.length m.snd.snd.snd.snd.snd.snd.snd.snd.snd.snd.snd.snd.snd.snd.snd.fst) : Int) ≤ (16 : Int)))) else k (.v .bool (false))))))))) else k (.v .bool (true)))))))))))))))
theorem main (m : D66) (f : Int) (k : AV → Prop) : (runFn C callF Tryz.f95 [.v (.pair (.int .u8) (.pair (.int .u64) (.pair (.int .u64) (.pair (.int .u64) (.pair (.sl (.int .u8)) (.pair (.sl (.int .u8)) (.pair .bool (.pair (.int .u8) (.pair (.int .u8) (.pair (.int .u8) (.pair (.int .u32) (.pair (.int .u32) (.pair (.int .u64) (.pair (.int .u8) (.pair (.sl (.pair (.int .u64) (.pair (.sl (.int .u8)) .unit))) (.pair (.sl (.pair (.int .u8) (.pair (.int .u64) (.pair (.int .u8) .unit)))) (.pair (.sl (.int .u8)) .unit))))))))))))))))) m, .v (.int .i64) f] [] (fun r H => coRes H [.bool] r k)) = Main m f k := by kernel_rfl
theorem loop26 (v : V26) (X : Nat → St → Prop) (R : St → Prop) : Q26 v X R → ∃ m, loopN C callF keep26 1 body26 ⟨0, [], fun _ => False, X, R⟩ m (st26 v) := by
  refine loop_ind (fun v => Q26 v X R) (fun (x5, h0) => h0.2.2.2.2.2.2.2.2.2.2.2.2.2.2.1.length - x5.toNat) ?_ v
  rintro ⟨x5, h0⟩ ⟨qa0, qa1, qa2, hn, hx, h4⟩ N hN
  rw [round26]
  obtain ⟨j, rfl⟩ : ∃ j : Nat, x5 = j := ⟨x5.toNat, by omega⟩
  dsimp only at hN
  rw [Int.toNat_natCast] at h4
  have h2' : h0.2.2.2.2.2.2.2.2.2.2.2.2.2.2.1.length ≤ 1073741824 := qa2
  refine bif_d (fun hj => ?_) (fun hj => ?_)
  · have hjn : j < h0.2.2.2.2.2.2.2.2.2.2.2.2.2.2.1.length := by omega
    rw [drop_cons (l := h0.2.2.2.2.2.2.2.2.2.2.2.2.2.2.1) hjn d118, List.all_cons] at h4
    refine ⟨by omega, by omega, ?_⟩
    rw [Int.toNat_natCast]
    cases hp : (fun p => !decide ((p.2.1.length : Int) > 64)) (h0.2.2.2.2.2.2.2.2.2.2.2.2.2.2.1.getD j d118) with
    | false =>
      try dsimp only at hp
      rw [hp, Bool.false_and, cond_false] at h4
      exact bif_i (fun he => by first | exact h4 | (exfalso; rw [he] at hp; cases hp) | (exfalso; rw [hp] at he; cases he) | exact absurd he (by decide)) (fun he => by first | exact h4 | (exfalso; rw [he] at hp; cases hp) | (exfalso; rw [hp] at he; cases he) | exact absurd he (by decide))
    | true =>
      try dsimp only at hp
      rw [hp, Bool.true_and] at h4
      have hN' : N (st26 (((j + 1 : Nat) : Int), h0)) := hN _ ⟨by omega, by omega, qa2, hn, hx, by rw [Int.toNat_natCast]; exact h4⟩ (by dsimp only; omega)
      rw [w64n (by omega)]
      exact bif_i (fun he => by first | exact hN' | (exfalso; rw [he] at hp; cases hp) | (exfalso; rw [hp] at he; cases he) | exact absurd he (by decide)) (fun he => by first | exact hN' | (exfalso; rw [he] at hp; cases hp) | (exfalso; rw [hp] at he; cases he) | exact absurd he (by decide))
  · rw [List.drop_eq_nil_of_le (by omega)] at h4
    exact h4
theorem loop34 (v : V34) (X : Nat → St → Prop) (R : St → Prop) : Q34 v X R → ∃ m, loopN C callF keep34 1 body34 ⟨0, [], fun _ => False, X, R⟩ m (st34 v) := by
  refine loop_ind (fun v => Q34 v X R) (fun (x7, h0) => h0.2.2.2.2.2.2.2.2.2.2.2.2.2.2.2.1.length - x7.toNat) ?_ v
  rintro ⟨x7, h0⟩ ⟨qa0, qa1, qa2, hn, hx, h4⟩ N hN
  rw [round34]
  obtain ⟨j, rfl⟩ : ∃ j : Nat, x7 = j := ⟨x7.toNat, by omega⟩
  dsimp only at hN
  rw [Int.toNat_natCast] at h4
  have h2' : h0.2.2.2.2.2.2.2.2.2.2.2.2.2.2.2.1.length ≤ 1073741824 := qa2
  refine bif_d (fun hj => ?_) (fun hj => ?_)
  · have hjn : j < h0.2.2.2.2.2.2.2.2.2.2.2.2.2.2.2.1.length := by omega
    rw [drop_cons (l := h0.2.2.2.2.2.2.2.2.2.2.2.2.2.2.2.1) hjn d187, List.all_cons] at h4
    refine ⟨by omega, by omega, ?_⟩
    rw [Int.toNat_natCast]
    cases hp : (okS) (h0.2.2.2.2.2.2.2.2.2.2.2.2.2.2.2.1.getD j d187) with
    | false =>
      try dsimp only at hp
      rw [hp, Bool.false_and, cond_false] at h4
      unfold okS at hp; refine bif_i (fun a => h4) (fun a => bif_i (fun b => h4) (fun b => bif_i (fun c => h4) (fun c => bif_i (fun d => h4) (fun d => bif_i (fun e => h4) (fun e => ?_))))); rw [a, b, c, d, e] at hp; cases hp
    | true =>
      try dsimp only at hp
      rw [hp, Bool.true_and] at h4
      have hN' : N (st34 (((j + 1 : Nat) : Int), h0)) := hN _ ⟨by omega, by omega, qa2, hn, hx, by rw [Int.toNat_natCast]; exact h4⟩ (by dsimp only; omega)
      rw [w64n (by omega)]
      unfold okS at hp; exact bif_i (fun a => absurd hp (by rw [a]; simp)) (fun a => bif_i (fun b => absurd hp (by rw [b]; simp)) (fun b => bif_i (fun c => absurd hp (by rw [c]; simp)) (fun c => bif_i (fun d => absurd hp (by rw [d]; simp)) (fun d => bif_i (fun e => absurd hp (by rw [e]; simp)) (fun e => hN')))))
  · rw [List.drop_eq_nil_of_le (by omega)] at h4
    exact h4
def val (m : D66) (f : Int) : Bool :=
  (bif f == (1 : Int) then (bif decide (m.snd.fst > (0 : Int)) then (true) else (IntKind.i64.wrap m.fst == (11 : Int))) else (bif f == (3 : Int) then (decide (m.snd.snd.fst ≤ m.snd.snd.snd.fst)) else (bif f == (4 : Int) then (decide ((↑(List.length m.snd.snd.snd.snd.fst) : Int) ≤ (64 : Int))) else (bif f == (5 : Int) then (bif decide ((↑(List.length m.snd.snd.snd.snd.snd.fst) : Int) ≤ (64 : Int)) then (bif m.snd.snd.snd.snd.snd.snd.fst then (true) else ((↑(List.length m.snd.snd.snd.snd.snd.fst) : Int) == (0 : Int))) else (false)) else (bif f == (6 : Int) then (bif decide (m.snd.snd.snd.snd.snd.snd.snd.snd.snd.snd.snd.snd.snd.fst > (0 : Int)) then (decide (m.snd.snd.snd.snd.snd.snd.snd.snd.snd.snd.snd.snd.snd.fst ≤ (16 : Int))) else (false)) else (bif f == (7 : Int) then (bif decide (IntKind.i64.wrap m.snd.snd.snd.snd.snd.snd.snd.fst ≥ (1 : Int)) then (decide (IntKind.i64.wrap m.snd.snd.snd.snd.snd.snd.snd.fst ≤ (5 : Int))) else (false)) else (bif f == (8 : Int) then (F129.val m) else (bif f == (9 : Int) then (decide (m.snd.snd.snd.snd.snd.snd.snd.snd.snd.fst ≤ (15 : Int))) else (bif f == (10 : Int) then (decide (m.snd.snd.snd.snd.snd.snd.snd.snd.snd.snd.fst ≤ (65535 : Int))) else (bif f == (11 : Int) then (decide (m.snd.snd.snd.snd.snd.snd.snd.snd.snd.snd.snd.fst ≤ (65535 : Int))) else (bif f == (13 : Int) then (bif decide ((↑(List.length m.snd.snd.snd.snd.snd.snd.snd.snd.snd.snd.snd.snd.snd.snd.snd.snd.fst) : Int) > (0 : Int)) then (decide ((↑(List.length m.snd.snd.snd.snd.snd.snd.snd.snd.snd.snd.snd.snd.snd.snd.snd.snd.fst) : Int) ≤ (3072 : Int))) else (false)) else (bif f == (14 : Int) then (bif m.snd.snd.snd.snd.snd.snd.snd.snd.snd.snd.snd.snd.snd.snd.fst.all fun (p : Int × List Int × Unit) => !decide ((↑p.snd.fst.length : Int) > (64 : Int)) then (decide ((↑(List.length m.snd.snd.snd.snd.snd.snd.snd.snd.snd.snd.snd.snd.snd.snd.fst) : Int) ≤ F130.val m)) else (false)) else (bif f == (15 : Int) then (bif m.snd.snd.snd.snd.snd.snd.snd.snd.snd.snd.snd.snd.snd.snd.snd.fst.all okS then (decide ((↑(List.length m.snd.snd.snd.snd.snd.snd.snd.snd.snd.snd.snd.snd.snd.snd.snd.fst) : Int) ≤ (16 : Int))) else (false)) else (true))))))))))))))
def Pre (m : D66) (f : Int) : Prop :=
  (bif f == (1 : Int) then True else (bif f == (3 : Int) then True else (bif f == (4 : Int) then True else (bif f == (5 : Int) then True else (bif f == (6 : Int) then True else (bif f == (7 : Int) then True else (bif f == (8 : Int) then True else (bif f == (9 : Int) then True else (bif f == (10 : Int) then True else (bif f == (11 : Int) then True else (bif f == (13 : Int) then True else (bif f == (14 : Int) then (m.snd.snd.snd.snd.snd.snd.snd.snd.snd.snd.snd.snd.snd.snd.fst.length ≤ LB) else (bif f == (15 : Int) then (m.snd.snd.snd.snd.snd.snd.snd.snd.snd.snd.snd.snd.snd.snd.snd.fst.length ≤ LB) else True)))))))))))))
def valAV (x : Bool) : AV := .v .bool x
theorem specP (m : D66) (f : Int) (k : AV → Prop) (h : Pre m f) (hk : k (.v .bool (val m f))) : Main m f k := ((bif_PV (K := fun x => k (valAV x)) (bif_pV (K := fun x => k (valAV x)) (fun _ h => h) (fun _ h => h)) (bif_PV (K := fun x => k (valAV x)) (fun _ h => h) (bif_PV (K := fun x => k (valAV x)) (fun _ h => h) (bif_PV (K := fun x => k (valAV x)) (bif_pV (K := fun x => k (valAV x)) (bif_pV (K := fun x => k (valAV x)) (fun _ h => h) (fun _ h => h)) (fun _ h => h)) (bif_PV (K := fun x => k (valAV x)) (bif_pV (K := fun x => k (valAV x)) (fun _ h => h) (fun _ h => h)) (bif_PV (K := fun x => k (valAV x)) (bif_pV (K := fun x => k (valAV x)) (fun _ h => h) (fun _ h => h)) (bif_PV (K := fun x => k (valAV x)) (fun _ h => h) (bif_PV (K := fun x => k (valAV x)) (fun _ h => h) (bif_PV (K := fun x => k (valAV x)) (fun _ h => h) (bif_PV (K := fun x => k (valAV x)) (fun _ h => h) (bif_PV (K := fun x => k (valAV x)) (bif_pV (K := fun x => k (valAV x)) (fun _ h => h) (fun _ h => h)) (bif_PV (K := fun x => k (valAV x)) (and_c (K := fun x => k (valAV x)) rfl (and_c (K := fun x => k (valAV x)) (of_decide_eq_true rfl) (and_c (K := fun x => k (valAV x)) (of_decide_eq_true rfl) (and_t (K := fun x => k (valAV x)) (and_c (K := fun x => k (valAV x)) (of_decide_eq_true rfl) (and_c (K := fun x => k (valAV x)) (of_decide_eq_true rfl) (bif_pV (K := fun x => k (valAV x)) (fun _ h => h) (fun _ h => h)))))))) (bif_PV (K := fun x => k (valAV x)) (and_c (K := fun x => k (valAV x)) rfl (and_c (K := fun x => k (valAV x)) (of_decide_eq_true rfl) (and_c (K := fun x => k (valAV x)) (of_decide_eq_true rfl) (and_t (K := fun x => k (valAV x)) (and_c (K := fun x => k (valAV x)) (of_decide_eq_true rfl) (and_c (K := fun x => k (valAV x)) (of_decide_eq_true rfl) (bif_pV (K := fun x => k (valAV x)) (fun _ h => h) (fun _ h => h)))))))) (fun _ h => h)))))))))))))) : Pre m f → (fun x => k (valAV x)) (val m f) → Main m f k) h hk
theorem preT (m : D66) (f : Int) (h1 : (mPairs m).length ≤ LB) (h2 : (mSess m).length ≤ LB) : Pre m f := by
  unfold Pre
  repeat (first | exact h1 | exact h2 | exact trivial | rfl | exact Int.le_refl 0 | exact Int.natCast_nonneg _ | refine ⟨?_, ?_⟩ | refine bif_all ?_ ?_)
theorem spec (m : D66) (f : Int) (k : AV → Prop) (h : AllP [(mPairs m).length ≤ LB, (mSess m).length ≤ LB]) (hk : k (.v .bool (val m f))) : Main m f k := specP m f k (preT m f h.1 h.2.1) hk
noncomputable def ts : List Ty := [T66, (.int .i64)]
noncomputable def G : List AV → PV := pg2 T66 (.int .i64) (fun m f => [(mPairs m).length ≤ LB, (mSess m).length ≤ LB]) (fun m f => .v .bool (val m f))
theorem loopsOK : LoopsOK C callF (bodyOf Tryz.f95) := loopsOK_seek (tbl := loops) (fun _ => rfl) (by kernel_rfl) (List.forall_mem_cons.2 ⟨mkL_ok loop26, List.forall_mem_cons.2 ⟨mkL_ok loop34, fun _ h => nomatch h⟩⟩)
theorem pursOK : ∀ g ts F, C.pur g = some (ts, F) → SoundP Tryz.prog g F := purOf_ok (l := purs) (List.forall_mem_cons.2 ⟨Go.Proofs.YtmemeaaccgmeaaaGreat.RA.F129.ok, List.forall_mem_cons.2 ⟨Go.Proofs.YtmemeaaccgmeaaaGreat.RA.F130.ok, fun _ h => nomatch h⟩⟩)
theorem cfsOK : ∀ g, SoundF Tryz.prog g (callF g) := fun g => soundF_none g
theorem ok : SoundP Tryz.prog 95 G := by
  unfold G
  refine soundP_pg2 (soundF_run (C := C) (callF := callF) (tabOK C rfl rfl rfl) cfsOK pursOK Tryz.func95 (by kernel_rfl) loopsOK) [.bool] fun m f h => ?_
  rw [main]
  exact spec m f _ h rfl
end F95
namespace F96
abbrev V3 := Int × Int × D66
noncomputable def st3 (v : V3) : St := ⟨[.dead, .v (.int .i64) (v.1), .v .ref (.ptr 0 []), .dead, .dead, .v (.int .i64) (v.2.1), .dead, .dead, .dead, .dead, .dead, .dead, .dead, .dead, .dead, .dead, .dead, .dead, .dead, .dead, .dead, .dead, .dead, .dead, .dead, .dead, .dead, .dead, .dead, .dead, .dead, .dead, .dead, .dead, .dead, .dead, .dead, .dead, .dead, .dead, .dead, .dead, .dead, .dead, .dead, .dead, .dead, .dead, .dead, .dead, .dead, .dead, .dead, .dead, .dead, .dead, .dead, .dead, .dead, .dead, .dead, .dead, .dead, .dead, .dead, .dead, .dead, .dead, .dead, .dead, .dead], [.var T66 (v.2.2) 66]⟩
noncomputable def dec3 (s : St) : Option V3 := match gV (.int .i64) (s.T.getD 1 .dead), gV (.int .i64) (s.T.getD 5 .dead), gVar T66 s.H[0]? with | some a1, some a5, some b0 => some (a1, a5, b0) | _, _, _ => none
noncomputable def keep3 : List Nat := [1, 2, 5]
noncomputable def body3 : Code := bodyAt (loopsOf (bodyOf Tryz.f96)) 3
abbrev V10 := Int × D66
noncomputable def st10 (v : V10) : St := ⟨[.dead, .dead, .v .ref (.ptr 0 []), .dead, .dead, .dead, .dead, .v (.int .i64) (v.1), .dead, .dead, .dead, .dead, .dead, .dead, .dead, .dead, .dead, .dead, .dead, .dead, .dead, .dead, .dead, .dead, .dead, .dead, .dead, .dead, .dead, .dead, .dead, .dead, .dead, .dead, .dead, .dead, .dead, .dead, .dead, .dead, .dead, .dead, .dead, .dead, .dead, .dead, .dead, .dead, .dead, .dead, .dead, .dead, .dead, .dead, .dead, .dead, .dead, .dead, .dead, .dead, .dead, .dead, .dead, .dead, .dead, .dead, .dead, .dead, .dead, .dead, .dead], [.var T66 (v.2) 66]⟩
noncomputable def dec10 (s : St) : Option V10 := match gV (.int .i64) (s.T.getD 7 .dead), gVar T66 s.H[0]? with | some a7, some b0 => some (a7, b0) | _, _ => none
noncomputable def keep10 : List Nat := [2, 7]
noncomputable def body10 : Code := bodyAt (loopsOf (bodyOf Tryz.f96)) 10
noncomputable def s0 (x4 : Bool) : St := ⟨[.dead, .dead, .dead, .dead, .v .bool x4, .dead, .dead, .dead, .dead, .dead, .dead, .dead, .dead, .dead, .dead, .dead, .dead, .dead, .dead, .dead, .dead, .dead, .dead, .dead, .dead, .dead, .dead, .dead, .dead, .dead, .dead, .dead, .dead, .dead, .dead, .dead, .dead, .dead, .dead, .dead, .dead, .dead, .dead, .dead, .dead, .dead, .dead, .dead, .dead, .dead, .dead, .dead, .dead, .dead, .dead, .dead, .dead, .dead, .dead, .dead, .dead, .dead, .dead, .dead, .dead, .dead, .dead, .dead, .dead, .dead, .dead], []⟩
noncomputable def s1 (x1 : Int) (h0 : D66) : St := ⟨[.dead, .v (.int .i64) x1, .v .ref (.ptr 0 []), .dead, .dead, .dead, .dead, .dead, .dead, .dead, .dead, .dead, .dead, .dead, .dead, .dead, .dead, .dead, .dead, .dead, .dead, .dead, .dead, .dead, .dead, .dead, .dead, .dead, .dead, .dead, .dead, .dead, .dead, .dead, .dead, .dead, .dead, .dead, .dead, .dead, .dead, .dead, .dead, .dead, .dead, .dead, .dead, .dead, .dead, .dead, .dead, .dead, .dead, .dead, .dead, .dead, .dead, .dead, .dead, .dead, .dead, .dead, .dead, .dead, .dead, .dead, .dead, .dead, .dead, .dead, .dead], [.var T66 h0 66]⟩
noncomputable def s2 (h0 : D66) : St := ⟨[.dead, .dead, .dead, .dead, .dead, .dead, .dead, .dead, .dead, .dead, .dead, .dead, .dead, .dead, .dead, .dead, .dead, .dead, .dead, .dead, .dead, .dead, .dead, .dead, .dead, .dead, .dead, .dead, .dead, .dead, .dead, .dead, .dead, .dead, .dead, .dead, .dead, .dead, .dead, .dead, .dead, .dead, .dead, .dead, .dead, .dead, .dead, .dead, .dead, .dead, .dead, .dead, .dead, .dead, .dead, .dead, .dead, .dead, .dead, .dead, .dead, .dead, .dead, .dead, .dead, .dead, .dead, .dead, .dead, .dead, .dead], [.var T66 h0 66]⟩
def Q3 : V3 → (Nat → St → Prop) → (St → Prop) → Prop := fun (f, i, m) X R => 0 ≤ i ∧ i ≤ (mPairs m).length ∧ (mPairs m).length ≤ LB ∧ bif (List.range' i.toNat ((mPairs m).length - i.toNat)).all (W.F260.okP m) then X 0 (s1 f m) else R (s0 false)
def Q10 : V10 → (Nat → St → Prop) → (St → Prop) → Prop := fun (i, m) X R => 1 ≤ i ∧ i ≤ (mSess m).length + 1 ∧ (mSess m).length ≤ LB ∧ bif (List.range' i.toNat ((mSess m).length - i.toNat)).all (W.F268.okO m) then X 2 (s2 m) else R (s0 false)
noncomputable def purs : List (Nat × (List Ty × (List AV → PV))) := []
noncomputable def callF (g : FuncId) : CF := fun _ _ _ => False
noncomputable def L3 : K → Nat → St → Prop := mkL dec3 st3 0 1 [] Q3
noncomputable def L10 : K → Nat → St → Prop := mkL dec10 st10 0 1 [] Q10
noncomputable def loops : List (Nat × (List Nat × (K → Nat → St → Prop))) := [(3, (keep3, L3)), (10, (keep10, L10))]
noncomputable def C : Ctx := { ti := ti, meth := meth, can := can, pur := purOf purs, loops := fun i => seek loops i, gh := fun _ => [], xk := fun i => seek [(0, ([1, 2], 0)), (2, ([], 0))] i, rk := some ([4], 0) }
noncomputable def Round3 (x1 : Int) (x5 : Int) (h0 : D66) (N : St → Prop) (X : Nat → St → Prop) (R : St → Prop) : Prop :=
  (bif decide (x5 < (↑(List.length h0.snd.snd.snd.snd.snd.snd.snd.snd.snd.snd.snd.snd.snd.snd.fst) : Int)) then (((0 : Int) ≤ x5) ∧ ((x5 < (↑(List.length h0.snd.snd.snd.snd.snd.snd.snd.snd.snd.snd.snd.snd.snd.snd.fst) : Int)) ∧ (bif decide ((List.getD h0.snd.snd.snd.snd.snd.snd.snd.snd.snd.snd.snd.snd.snd.snd.fst x5.toNat d118).fst < h0.snd.snd.fst) then R (s0 (false)) else (bif decide ((List.getD h0.snd.snd.snd.snd.snd.snd.snd.snd.snd.snd.snd.snd.snd.snd.fst x5.toNat d118).fst > h0.snd.snd.snd.fst) then R (s0 (false)) else (bif decide (x5 > (0 : Int)) then (((0 : Int) ≤ IntKind.i64.wrap (x5 - (1 : Int))) ∧ ((IntKind.i64.wrap (x5 - (1 : Int)) < (↑(List.length h0.snd.snd.snd.snd.snd.snd.snd.snd.snd.snd.snd.snd.snd.snd.fst) : Int)) ∧ (bif decide ((List.getD h0.snd.snd.snd.snd.snd.snd.snd.snd.snd.snd.snd.snd.snd.snd.fst (IntKind.i64.wrap (x5 - (1 : Int))).toNat d118).fst ≥ (List.getD h0.snd.snd.snd.snd.snd.snd.snd.snd.snd.snd.snd.snd.snd.snd.fst x5.toNat d118).fst) then R (s0 (false)) else N (st3 (x1, IntKind.i64.wrap (x5 + (1 : Int)), h0))))) else N (st3 (x1, IntKind.i64.wrap (x5 + (1 : Int)), h0))))))) else X 0 (s1 (x1) (h0)))
theorem round3 (x1 : Int) (x5 : Int) (h0 : D66) (N : St → Prop) (X : Nat → St → Prop) (R : St → Prop) : exec C callF body3 ⟨0, [1], fun s' => cond (Nat.ble 1 s'.H.length) (N (scrub keep3 1 s')) False, X, R⟩ (st3 (x1, x5, h0)) = Round3 x1 x5 h0 N X R := by kernel_rfl
noncomputable def Round10 (x7 : Int) (h0 : D66) (N : St → Prop) (X : Nat → St → Prop) (R : St → Prop) : Prop :=
  (bif decide (x7 < (↑(List.length h0.snd.snd.snd.snd.snd.snd.snd.snd.snd.snd.snd.snd.snd.snd.snd.fst) : Int)) then (((0 : Int) ≤ IntKind.i64.wrap (x7 - (1 : Int))) ∧ ((IntKind.i64.wrap (x7 - (1 : Int)) < (↑(List.length h0.snd.snd.snd.snd.snd.snd.snd.snd.snd.snd.snd.snd.snd.snd.snd.fst) : Int)) ∧ (((0 : Int) ≤ x7) ∧ ((x7 < (↑(List.length h0.snd.snd.snd.snd.snd.snd.snd.snd.snd.snd.snd.snd.snd.snd.snd.fst) : Int)) ∧ (bif decide ((List.getD h0.snd.snd.snd.snd.snd.snd.snd.snd.snd.snd.snd.snd.snd.snd.snd.fst (IntKind.i64.wrap (x7 - (1 : Int))).toNat d187).fst ≥ (List.getD h0.snd.snd.snd.snd.snd.snd.snd.snd.snd.snd.snd.snd.snd.snd.snd.fst x7.toNat d187).fst) then R (s0 (false)) else N (st10 (IntKind.i64.wrap (x7 + (1 : Int)), h0))))))) else X 2 (s2 (h0)))
theorem round10 (x7 : Int) (h0 : D66) (N : St → Prop) (X : Nat → St → Prop) (R : St → Prop) : exec C callF body10 ⟨0, [1], fun s' => cond (Nat.ble 1 s'.H.length) (N (scrub keep10 1 s')) False, X, R⟩ (st10 (x7, h0)) = Round10 x7 h0 N X R := by kernel_rfl
noncomputable def Main (m : D66) (f : Int) (k : AV → Prop) : Prop :=
  (bif f == (14 : Int) then (st3 (f, (0 : Int), m) = st3 (f, (0 : Int), m) ∧ (((0 : Int) ≤ (0 : Int)) ∧ (((0 : Int) ≤ (↑(mPairs m).length : Int)) ∧ (((mPairs m).length ≤ LB) ∧ (bif (List.range' (Int.toNat (0 : Int)) ((mPairs m).length - Int.toNat (0 : Int))).all (F260.okP m) then (bif f == (15 : Int) then (st10 ((1 : Int), m) = st10 ((1 : Int), m) ∧ (((1 : Int) ≤ (1 : Int)) ∧ (((1 : Int) ≤ (↑(mSess m).length : Int) + (1 : Int)) ∧ (((mSess m).length ≤ LB) ∧ (bif (List.range' (Int.toNat (1 : Int)) ((mSess m).length - Int.toNat (1 : Int))).all (F268.okO m) then k (.v .bool (true)) else k (.v .bool (false))))))) else k (.v .bool (true))) else k (.v .bool (false))))))) else (bif f == (15 : Int) then (st10 ((1 : Int), m) = st10 ((1 : Int), m) ∧ (((1 : Int) ≤ (1 : Int)) ∧ (((1 : Int) ≤ (↑(mSess m).length : Int) + (1 : Int)) ∧ (((mSess m).length ≤ LB) ∧ (bif (List.range' (Int.toNat (1 : Int)) ((mSess m).length - Int.toNat (1 : Int))).all (F268.okO m) then k (.v .bool (true)) else k (.v .bool (false))))))) else k (.v .bool (true))))
theorem main (m : D66) (f : Int) (k : AV → Prop) : (runFn C callF Tryz.f96 [.v (.pair (.int .u8) (.pair (.int .u64) (.pair (.int .u64) (.pair (.int .u64) (.pair (.sl (.int .u8)) (.pair (.sl (.int .u8)) (.pair .bool (.pair (.int .u8) (.pair (.int .u8) (.pair (.int .u8) (.pair (.int .u32) (.pair (.int .u32) (.pair (.int .u64) (.pair (.int .u8) (.pair (.sl (.pair (.int .u64) (.pair (.sl (.int .u8)) .unit))) (.pair (.sl (.pair (.int .u8) (.pair (.int .u64) (.pair (.int .u8) .unit)))) (.pair (.sl (.int .u8)) .unit))))))))))))))))) m, .v (.int .i64) f] [] (fun r H => coRes H [.bool] r k)) = Main m f k := by kernel_rfl
theorem loop3 (v : V3) (X : Nat → St → Prop) (R : St → Prop) : Q3 v X R → ∃ m, loopN C callF keep3 1 body3 ⟨0, [], fun _ => False, X, R⟩ m (st3 v) := by
  refine loop_ind (fun v => Q3 v X R) (fun (f, i, m) => (mPairs m).length - i.toNat) ?_ v
  rintro ⟨f, i, m⟩ ⟨h0, h1, h2, h4⟩ N hN
  rw [round3]
  obtain ⟨j, rfl⟩ : ∃ a : Nat, i = a := ⟨i.toNat, by omega⟩
  dsimp only at hN
  rw [Int.toNat_natCast] at h4
  have h2' : (mPairs m).length ≤ 1073741824 := h2
  refine bif_d (fun hj => ?_) (fun hj => ?_)
  · have hj' : (j : Int) < ((mPairs m).length : Int) := hj
    have hn : j < (mPairs m).length := by omega
    rw [range_cons hn, List.all_cons] at h4
    rw [Int.toNat_natCast, w64n (by omega)]
    have bad : W.F260.okP m j = false → R (s0 false) := fun e => by rw [e, Bool.false_and, cond_false] at h4; exact h4
    have good : W.F260.okP m j = true → N (st3 (f, ((j + 1 : Nat) : Int), m)) := fun e => by
      rw [e, Bool.true_and] at h4
      exact hN (f, ((j + 1 : Nat) : Int), m) ⟨by omega, by omega, h2, by rw [Int.toNat_natCast]; exact h4⟩ (by dsimp only; omega)
    have e1 : IntKind.i64.wrap ((j : Int) - 1) = ((j - 1 : Nat) : Int) ∨ j = 0 := by
      by_cases hj0 : j = 0
      · exact .inr hj0
      · refine .inl ?_
        rw [w64 (by omega) (by omega)]; omega
    refine ⟨by omega, hj, bif_d (fun a => bad ?_) (fun a => bif_d (fun b => bad ?_) (fun b => bif_d (fun c => ?_) (fun c => good ?_)))⟩
    · unfold W.F260.okP; rw [decide_eq_true a]; rfl
    · unfold W.F260.okP; rw [decide_eq_true b, Bool.true_or, Bool.or_true]; rfl
    · rw [e1.resolve_right (by omega), Int.toNat_natCast]
      refine ⟨by omega, by show ((j - 1 : Nat) : Int) < ((mPairs m).length : Int); omega, bif_d (fun d => bad ?_) (fun d => good ?_)⟩
      · unfold W.F260.okP; rw [decide_eq_true (show 0 < j by omega), decide_eq_true (show ((mPairs m).getD j d118).1 ≤ ((mPairs m).getD (j - 1) d118).1 from d), Bool.and_self, Bool.or_true, Bool.or_true]; rfl
      · unfold W.F260.okP; rw [decide_eq_false a, decide_eq_false b, decide_eq_false (show ¬ ((mPairs m).getD j d118).1 ≤ ((mPairs m).getD (j - 1) d118).1 from d), Bool.and_false]; rfl
    · unfold W.F260.okP; rw [decide_eq_false a, decide_eq_false b, decide_eq_false (show ¬ 0 < j by omega)]; rfl
  · have hj' : ¬ (j : Int) < ((mPairs m).length : Int) := hj
    rw [show (mPairs m).length - j = 0 by omega] at h4
    exact h4

theorem loop10 (v : V10) (X : Nat → St → Prop) (R : St → Prop) : Q10 v X R → ∃ m, loopN C callF keep10 1 body10 ⟨0, [], fun _ => False, X, R⟩ m (st10 v) := by
  refine loop_ind (fun v => Q10 v X R) (fun (i, m) => (mSess m).length - i.toNat) ?_ v
  rintro ⟨i, m⟩ ⟨h0, h1, h2, h4⟩ N hN
  rw [round10]
  obtain ⟨j, rfl⟩ : ∃ a : Nat, i = a := ⟨i.toNat, by omega⟩
  dsimp only at hN
  rw [Int.toNat_natCast] at h4
  have h2' : (mSess m).length ≤ 1073741824 := h2
  refine bif_d (fun hj => ?_) (fun hj => ?_)
  · have hj' : (j : Int) < ((mSess m).length : Int) := hj
    have hn : j < (mSess m).length := by omega
    rw [range_cons hn, List.all_cons] at h4
    rw [Int.toNat_natCast, w64n (by omega)]
    have bad : W.F268.okO m j = false → R (s0 false) := fun e => by rw [e, Bool.false_and, cond_false] at h4; exact h4
    have good : W.F268.okO m j = true → N (st10 (((j + 1 : Nat) : Int), m)) := fun e => by
      rw [e, Bool.true_and] at h4
      exact hN (((j + 1 : Nat) : Int), m) ⟨by omega, by omega, h2, by rw [Int.toNat_natCast]; exact h4⟩ (by dsimp only; omega)
    have e1 : IntKind.i64.wrap ((j : Int) - 1) = ((j - 1 : Nat) : Int) := by rw [w64 (by omega) (by omega)]; omega
    rw [e1, Int.toNat_natCast]
    refine ⟨by omega, by show ((j - 1 : Nat) : Int) < ((mSess m).length : Int); omega, by omega, hj, bif_d (fun d => bad ?_) (fun d => good ?_)⟩
    · unfold W.F268.okO; rw [decide_eq_true (show 0 < j by omega), decide_eq_true (show ((mSess m).getD j d187).1 ≤ ((mSess m).getD (j - 1) d187).1 from d)]; rfl
    · unfold W.F268.okO; rw [decide_eq_false (show ¬ ((mSess m).getD j d187).1 ≤ ((mSess m).getD (j - 1) d187).1 from d), Bool.and_false]; rfl
  · have hj' : ¬ (j : Int) < ((mSess m).length : Int) := hj
    rw [show (mSess m).length - j = 0 by omega] at h4
    exact h4

def val (m : D66) (f : Int) : Bool :=
  (bif f == (14 : Int) then (bif (List.range' (Int.toNat (0 : Int)) ((mPairs m).length - Int.toNat (0 : Int))).all (F260.okP m) then (bif f == (15 : Int) then (bif (List.range' (Int.toNat (1 : Int)) ((mSess m).length - Int.toNat (1 : Int))).all (F268.okO m) then (true) else (false)) else (true)) else (false)) else (bif f == (15 : Int) then (bif (List.range' (Int.toNat (1 : Int)) ((mSess m).length - Int.toNat (1 : Int))).all (F268.okO m) then (true) else (false)) else (true)))
def Pre (m : D66) (f : Int) : Prop :=
  (bif f == (14 : Int) then (((mPairs m).length ≤ LB) ∧ (bif (List.range' (Int.toNat (0 : Int)) ((mPairs m).length - Int.toNat (0 : Int))).all (F260.okP m) then (bif f == (15 : Int) then (((1 : Int) ≤ (↑(mSess m).length : Int) + (1 : Int)) ∧ ((mSess m).length ≤ LB)) else True) else True)) else (bif f == (15 : Int) then (((1 : Int) ≤ (↑(mSess m).length : Int) + (1 : Int)) ∧ ((mSess m).length ≤ LB)) else True))
def valAV (x : Bool) : AV := .v .bool x
theorem specP (m : D66) (f : Int) (k : AV → Prop) (h : Pre m f) (hk : k (.v .bool (val m f))) : Main m f k := ((bif_PV (K := fun x => k (valAV x)) (and_c (K := fun x => k (valAV x)) rfl (and_c (K := fun x => k (valAV x)) (of_decide_eq_true rfl) (and_c (K := fun x => k (valAV x)) (of_decide_eq_true rfl) (and_p (K := fun x => k (valAV x)) (bif_PV (K := fun x => k (valAV x)) (bif_PV (K := fun x => k (valAV x)) (and_c (K := fun x => k (valAV x)) rfl (and_c (K := fun x => k (valAV x)) (of_decide_eq_true rfl) (and_p (K := fun x => k (valAV x)) (and_t (K := fun x => k (valAV x)) (bif_pV (K := fun x => k (valAV x)) (fun _ h => h) (fun _ h => h)))))) (fun _ h => h)) (fun _ h => h)))))) (bif_PV (K := fun x => k (valAV x)) (and_c (K := fun x => k (valAV x)) rfl (and_c (K := fun x => k (valAV x)) (of_decide_eq_true rfl) (and_p (K := fun x => k (valAV x)) (and_t (K := fun x => k (valAV x)) (bif_pV (K := fun x => k (valAV x)) (fun _ h => h) (fun _ h => h)))))) (fun _ h => h))) : Pre m f → (fun x => k (valAV x)) (val m f) → Main m f k) h hk
theorem preT (m : D66) (f : Int) (h1 : (mPairs m).length ≤ LB) (h2 : (mSess m).length ≤ LB) : Pre m f := by
  unfold Pre
  repeat (first | exact h1 | exact h2 | exact trivial | rfl | exact Int.le_refl _ | exact Int.natCast_nonneg _ | (show (1 : Int) ≤ _ + 1; omega) | refine ⟨?_, ?_⟩ | refine bif_all ?_ ?_)
theorem spec (m : D66) (f : Int) (k : AV → Prop) (h : AllP [(mPairs m).length ≤ LB, (mSess m).length ≤ LB]) (hk : k (.v .bool (val m f))) : Main m f k := specP m f k (preT m f h.1 h.2.1) hk
noncomputable def ts : List Ty := [T66, (.int .i64)]
noncomputable def G : List AV → PV := pg2 T66 (.int .i64) (fun m f => [(mPairs m).length ≤ LB, (mSess m).length ≤ LB]) (fun m f => .v .bool (val m f))
theorem loopsOK : LoopsOK C callF (bodyOf Tryz.f96) := loopsOK_seek (tbl := loops) (fun _ => rfl) (by kernel_rfl) (List.forall_mem_cons.2 ⟨mkL_ok loop3, List.forall_mem_cons.2 ⟨mkL_ok loop10, fun _ h => nomatch h⟩⟩)
theorem pursOK : ∀ g ts F, C.pur g = some (ts, F) → SoundP Tryz.prog g F := purOf_ok (l := purs) (fun _ h => nomatch h)
theorem cfsOK : ∀ g, SoundF Tryz.prog g (callF g) := fun g => soundF_none g
theorem ok : SoundP Tryz.prog 96 G := by
  unfold G
  refine soundP_pg2 (soundF_run (C := C) (callF := callF) (tabOK C rfl rfl rfl) cfsOK pursOK Tryz.func96 (by kernel_rfl) loopsOK) [.bool] fun m f h => ?_
  rw [main]
  exact spec m f _ h rfl
end F96
namespace F84
noncomputable def purs : List (Nat × (List Ty × (List AV → PV))) := [(85, (Go.Proofs.YtmemeaaccgmeaaaGreat.RA.F85.ts, Go.Proofs.YtmemeaaccgmeaaaGreat.RA.F85.G)), (99, (Go.Proofs.YtmemeaaccgmeaaaGreat.RA.F99.ts, Go.Proofs.YtmemeaaccgmeaaaGreat.RA.F99.G)), (100, (Go.Proofs.YtmemeaaccgmeaaaGreat.RA.F100.ts, Go.Proofs.YtmemeaaccgmeaaaGreat.RA.F100.G))]
noncomputable def callF (g : FuncId) : CF := fun _ _ _ => False
noncomputable def loops : List (Nat × (List Nat × (K → Nat → St → Prop))) := []
noncomputable def C : Ctx := { ti := ti, meth := meth, can := can, pur := purOf purs, loops := fun i => seek loops i, gh := fun _ => [], rk := some ([4], 0) }
noncomputable def Main (a : D66) (b : D66) (k : AV → Prop) : Prop :=
  ((b.snd.snd.snd.snd.snd.snd.snd.snd.snd.snd.snd.snd.snd.snd.fst = [] ∨ a.snd.snd.snd.snd.snd.snd.snd.snd.snd.snd.snd.snd.snd.snd.fst = b.snd.snd.snd.snd.snd.snd.snd.snd.snd.snd.snd.snd.snd.snd.fst) ∧ ((List.length a.snd.snd.snd.snd.snd.snd.snd.snd.snd.snd.snd.snd.snd.snd.fst ≤ LB) ∧ ((b.snd.snd.snd.snd.snd.snd.snd.snd.snd.snd.snd.snd.snd.snd.snd.fst = []) ∧ (bif !F99.val a.snd.snd.snd.snd.fst b.snd.snd.snd.snd.fst then k (.v .bool (false)) else (bif !F99.val a.snd.snd.snd.snd.snd.fst b.snd.snd.snd.snd.snd.fst then k (.v .bool (false)) else (bif !F99.val a.snd.snd.snd.snd.snd.snd.snd.snd.snd.snd.snd.snd.snd.snd.snd.snd.fst b.snd.snd.snd.snd.snd.snd.snd.snd.snd.snd.snd.snd.snd.snd.snd.snd.fst then k (.v .bool (false)) else (bif !F85.val a.snd.snd.snd.snd.snd.snd.snd.snd.snd.snd.snd.snd.snd.snd.fst b.snd.snd.snd.snd.snd.snd.snd.snd.snd.snd.snd.snd.snd.snd.fst then k (.v .bool (false)) else (bif !F100.val a.snd.snd.snd.snd.snd.snd.snd.snd.snd.snd.snd.snd.snd.snd.snd.fst b.snd.snd.snd.snd.snd.snd.snd.snd.snd.snd.snd.snd.snd.snd.snd.fst then k (.v .bool (false)) else (bif a.fst != b.fst then k (.v .bool (false)) else (bif a.snd.fst != b.snd.fst then k (.v .bool (false)) else (bif a.snd.snd.fst != b.snd.snd.fst then k (.v .bool (false)) else (bif a.snd.snd.snd.fst != b.snd.snd.snd.fst then k (.v .bool (false)) else (bif !a.snd.snd.snd.snd.snd.snd.fst == b.snd.snd.snd.snd.snd.snd.fst then k (.v .bool (false)) else (bif a.snd.snd.snd.snd.snd.snd.snd.fst != b.snd.snd.snd.snd.snd.snd.snd.fst then k (.v .bool (false)) else (bif a.snd.snd.snd.snd.snd.snd.snd.snd.fst != b.snd.snd.snd.snd.snd.snd.snd.snd.fst then k (.v .bool (false)) else (bif a.snd.snd.snd.snd.snd.snd.snd.snd.snd.fst == b.snd.snd.snd.snd.snd.snd.snd.snd.snd.fst then (bif a.snd.snd.snd.snd.snd.snd.snd.snd.snd.snd.fst == b.snd.snd.snd.snd.snd.snd.snd.snd.snd.snd.fst then (bif a.snd.snd.snd.snd.snd.snd.snd.snd.snd.snd.snd.fst == b.snd.snd.snd.snd.snd.snd.snd.snd.snd.snd.snd.fst then (bif a.snd.snd.snd.snd.snd.snd.snd.snd.snd.snd.snd.snd.fst == b.snd.snd.snd.snd.snd.snd.snd.snd.snd.snd.snd.snd.fst then k (.v .bool (a.snd.snd.snd.snd.snd.snd.snd.snd.snd.snd.snd.snd.snd.fst == b.snd.snd.snd.snd.snd.snd.snd.snd.snd.snd.snd.snd.snd.fst)) else k (.v .bool (false))) else k (.v .bool (false))) else k (.v .bool (false))) else k (.v .bool (false))))))))))))))))))
theorem main (a : D66) (b : D66) (k : AV → Prop) : (runFn C callF Tryz.f84 [.v (.pair (.int .u8) (.pair (.int .u64) (.pair (.int .u64) (.pair (.int .u64) (.pair (.sl (.int .u8)) (.pair (.sl (.int .u8)) (.pair .bool (.pair (.int .u8) (.pair (.int .u8) (.pair (.int .u8) (.pair (.int .u32) (.pair (.int .u32) (.pair (.int .u64) (.pair (.int .u8) (.pair (.sl (.pair (.int .u64) (.pair (.sl (.int .u8)) .unit))) (.pair (.sl (.pair (.int .u8) (.pair (.int .u64) (.pair (.int .u8) .unit)))) (.pair (.sl (.int .u8)) .unit))))))))))))))))) a, .v (.pair (.int .u8) (.pair (.int .u64) (.pair (.int .u64) (.pair (.int .u64) (.pair (.sl (.int .u8)) (.pair (.sl (.int .u8)) (.pair .bool (.pair (.int .u8) (.pair (.int .u8) (.pair (.int .u8) (.pair (.int .u32) (.pair (.int .u32) (.pair (.int .u64) (.pair (.int .u8) (.pair (.sl (.pair (.int .u64) (.pair (.sl (.int .u8)) .unit))) (.pair (.sl (.pair (.int .u8) (.pair (.int .u64) (.pair (.int .u8) .unit)))) (.pair (.sl (.int .u8)) .unit))))))))))))))))) b] [] (fun r H => coRes H [.bool] r k)) = Main a b k := by kernel_rfl
def val (a : D66) (b : D66) : Bool :=
  (bif !F99.val a.snd.snd.snd.snd.fst b.snd.snd.snd.snd.fst then (false) else (bif !F99.val a.snd.snd.snd.snd.snd.fst b.snd.snd.snd.snd.snd.fst then (false) else (bif !F99.val a.snd.snd.snd.snd.snd.snd.snd.snd.snd.snd.snd.snd.snd.snd.snd.snd.fst b.snd.snd.snd.snd.snd.snd.snd.snd.snd.snd.snd.snd.snd.snd.snd.snd.fst then (false) else (bif !F85.val a.snd.snd.snd.snd.snd.snd.snd.snd.snd.snd.snd.snd.snd.snd.fst b.snd.snd.snd.snd.snd.snd.snd.snd.snd.snd.snd.snd.snd.snd.fst then (false) else (bif !F100.val a.snd.snd.snd.snd.snd.snd.snd.snd.snd.snd.snd.snd.snd.snd.snd.fst b.snd.snd.snd.snd.snd.snd.snd.snd.snd.snd.snd.snd.snd.snd.snd.fst then (false) else (bif a.fst != b.fst then (false) else (bif a.snd.fst != b.snd.fst then (false) else (bif a.snd.snd.fst != b.snd.snd.fst then (false) else (bif a.snd.snd.snd.fst != b.snd.snd.snd.fst then (false) else (bif !a.snd.snd.snd.snd.snd.snd.fst == b.snd.snd.snd.snd.snd.snd.fst then (false) else (bif a.snd.snd.snd.snd.snd.snd.snd.fst != b.snd.snd.snd.snd.snd.snd.snd.fst then (false) else (bif a.snd.snd.snd.snd.snd.snd.snd.snd.fst != b.snd.snd.snd.snd.snd.snd.snd.snd.fst then (false) else (bif a.snd.snd.snd.snd.snd.snd.snd.snd.snd.fst == b.snd.snd.snd.snd.snd.snd.snd.snd.snd.fst then (bif a.snd.snd.snd.snd.snd.snd.snd.snd.snd.snd.fst == b.snd.snd.snd.snd.snd.snd.snd.snd.snd.snd.fst then (bif a.snd.snd.snd.snd.snd.snd.snd.snd.snd.snd.snd.fst == b.snd.snd.snd.snd.snd.snd.snd.snd.snd.snd.snd.fst then (bif a.snd.snd.snd.snd.snd.snd.snd.snd.snd.snd.snd.snd.fst == b.snd.snd.snd.snd.snd.snd.snd.snd.snd.snd.snd.snd.fst then (a.snd.snd.snd.snd.snd.snd.snd.snd.snd.snd.snd.snd.snd.fst == b.snd.snd.snd.snd.snd.snd.snd.snd.snd.snd.snd.snd.snd.fst) else (false)) else (false)) else (false)) else (false))))))))))))))
def Pre (a : D66) (b : D66) : Prop :=
  ((b.snd.snd.snd.snd.snd.snd.snd.snd.snd.snd.snd.snd.snd.snd.fst = [] ∨ a.snd.snd.snd.snd.snd.snd.snd.snd.snd.snd.snd.snd.snd.snd.fst = b.snd.snd.snd.snd.snd.snd.snd.snd.snd.snd.snd.snd.snd.snd.fst) ∧ ((List.length a.snd.snd.snd.snd.snd.snd.snd.snd.snd.snd.snd.snd.snd.snd.fst ≤ LB) ∧ (b.snd.snd.snd.snd.snd.snd.snd.snd.snd.snd.snd.snd.snd.snd.snd.fst = [])))
def valAV (x : Bool) : AV := .v .bool x
theorem spec (a : D66) (b : D66) (k : AV → Prop) (h : AllP [Pre a b]) (hk : k (.v .bool (val a b))) : Main a b k := ((and_p (K := fun x => k (valAV x)) (and_p (K := fun x => k (valAV x)) (and_t (K := fun x => k (valAV x)) (bif_pV (K := fun x => k (valAV x)) (fun _ h => h) (bif_pV (K := fun x => k (valAV x)) (fun _ h => h) (bif_pV (K := fun x => k (valAV x)) (fun _ h => h) (bif_pV (K := fun x => k (valAV x)) (fun _ h => h) (bif_pV (K := fun x => k (valAV x)) (fun _ h => h) (bif_pV (K := fun x => k (valAV x)) (fun _ h => h) (bif_pV (K := fun x => k (valAV x)) (fun _ h => h) (bif_pV (K := fun x => k (valAV x)) (fun _ h => h) (bif_pV (K := fun x => k (valAV x)) (fun _ h => h) (bif_pV (K := fun x => k (valAV x)) (fun _ h => h) (bif_pV (K := fun x => k (valAV x)) (fun _ h => h) (bif_pV (K := fun x => k (valAV x)) (fun _ h => h) (bif_pV (K := fun x => k (valAV x)) (bif_pV (K := fun x => k (valAV x)) (bif_pV (K := fun x => k (valAV x)) (bif_pV (K := fun x => k (valAV x)) (fun _ h => h) (fun _ h => h)) (fun _ h => h)) (fun _ h => h)) (fun _ h => h))))))))))))))))) : Pre a b → (fun x => k (valAV x)) (val a b) → Main a b k) h.1 hk
noncomputable def ts : List Ty := [T66, T66]
noncomputable def G : List AV → PV := pg2 T66 T66 (fun a b => [Pre a b]) (fun a b => .v .bool (val a b))
theorem loopsOK : LoopsOK C callF (bodyOf Tryz.f84) := loopsOK_seek (tbl := loops) (fun _ => rfl) (by kernel_rfl) (fun _ h => nomatch h)
theorem pursOK : ∀ g ts F, C.pur g = some (ts, F) → SoundP Tryz.prog g F := purOf_ok (l := purs) (List.forall_mem_cons.2 ⟨Go.Proofs.YtmemeaaccgmeaaaGreat.RA.F85.ok, List.forall_mem_cons.2 ⟨Go.Proofs.YtmemeaaccgmeaaaGreat.RA.F99.ok, List.forall_mem_cons.2 ⟨Go.Proofs.YtmemeaaccgmeaaaGreat.RA.F100.ok, fun _ h => nomatch h⟩⟩⟩)
theorem cfsOK : ∀ g, SoundF Tryz.prog g (callF g) := fun g => soundF_none g
theorem ok : SoundP Tryz.prog 84 G := by
  unfold G
  refine soundP_pg2 (soundF_run (C := C) (callF := callF) (tabOK C rfl rfl rfl) cfsOK pursOK Tryz.func84 (by kernel_rfl) loopsOK) [.bool] fun a b h => ?_
  rw [main]
  exact spec a b _ h rfl
end F84


end Go.Proofs.YtmemeaaccgmeaaaGreat.RA
