/- may a call be -/
import Derived.Test.YtmemeaaccgmeaaaGreatDxTab
import Derived.Test.YtmemeaaccgmeaaaGreatDx3
import Derived.Test.YtmemeaaccgmeaaaGreatDxTy
import Derived.Test.YtmemeaaccgmeaaaGreatA
import Derived.Test.YtmemeaaccgmeaaaGreatY
import Derived.Test.YtmemeaaccgmeaaaGreatYU
set_option linter.unusedVariables false
set_option maxRecDepth 100000
open Go Go.Proofs Go.Proofs.YtmemeaaccgmeaaaGreat.Dx Go.Proofs.YtmemeaaccgmeaaaGreat.Dx.TYtmemeaaccgmeaaaGreat
namespace Go.Proofs.YtmemeaaccgmeaaaGreat.B
open W A Y
namespace F72
noncomputable def purs : List (Nat × (List Ty × (List AV → PV))) := [(82, (Go.Proofs.YtmemeaaccgmeaaaGreat.Y.F82.ts, Go.Proofs.YtmemeaaccgmeaaaGreat.Y.F82.G)), (91, (Go.Proofs.YtmemeaaccgmeaaaGreat.A.F91.ts, Go.Proofs.YtmemeaaccgmeaaaGreat.A.F91.G))]
noncomputable def callF (g : FuncId) : CF := fun _ _ _ => False
noncomputable def loops : List (Nat × (List Nat × (K → Nat → St → Prop))) := []
noncomputable def C : Ctx := { ti := ti, meth := meth, can := can, pur := purOf purs, loops := fun i => seek loops i, gh := fun _ => [], rk := some ([4], 0) }
noncomputable def Main (r : D52) (q : Int) (k : AV → Prop) : Prop :=
  (bif decide (r.fst ≥ (1 : Int)) then (bif decide (r.fst ≤ (5 : Int)) then ((r.fst ≠ (9 : (Ty.int IntKind.u8).D)) ∧ ((r.fst ≠ (12 : (Ty.int IntKind.u8).D)) ∧ (((mPairs (F91.val r q)).length ≤ LB) ∧ k (.v .bool (chk (F91.val r q) == (0 : Int)))))) else k (.v .bool (false))) else k (.v .bool (false)))
theorem main (r : D52) (q : Int) (k : AV → Prop) : (runFn C callF Tryz.f72 [.v (.pair (.int .u8) (.pair (.int .u64) (.pair (.int .u64) (.pair (.sl (.int .u8)) (.pair (.sl (.int .u8)) (.pair .bool (.pair (.int .u8) .unit))))))) r, .v (.int .u64) q] [] (fun r H => coRes H [.bool] r k)) = Main r q k := by kernel_rfl
def val (r : D52) (q : Int) : Bool :=
  (bif decide (r.fst ≥ (1 : Int)) then (bif decide (r.fst ≤ (5 : Int)) then (chk (F91.val r q) == (0 : Int)) else (false)) else (false))
def Pre (r : D52) (q : Int) : Prop :=
  (bif decide (r.fst ≥ (1 : Int)) then (bif decide (r.fst ≤ (5 : Int)) then ((r.fst ≠ (9 : (Ty.int IntKind.u8).D)) ∧ (r.fst ≠ (12 : (Ty.int IntKind.u8).D))) else True) else True)
def valAV (x : Bool) : AV := .v .bool x
theorem spec (r : D52) (q : Int) (k : AV → Prop) (h : AllP [Pre r q]) (hk : k (.v .bool (val r q))) : Main r q k := ((bif_PV (K := fun x => k (valAV x)) (bif_PV (K := fun x => k (valAV x)) (and_p (K := fun x => k (valAV x)) (and_t (K := fun x => k (valAV x)) (and_c (K := fun x => k (valAV x)) (of_decide_eq_true rfl) (fun _ h => h)))) (fun _ h => h)) (fun _ h => h)) : Pre r q → (fun x => k (valAV x)) (val r q) → Main r q k) h.1 hk
noncomputable def ts : List Ty := [T52, (.int .u64)]
noncomputable def G : List AV → PV := pg2 T52 (.int .u64) (fun r q => [Pre r q]) (fun r q => .v .bool (val r q))
theorem loopsOK : LoopsOK C callF (bodyOf Tryz.f72) := loopsOK_seek (tbl := loops) (fun _ => rfl) (by kernel_rfl) (fun _ h => nomatch h)
theorem pursOK : ∀ g ts F, C.pur g = some (ts, F) → SoundP Tryz.prog g F := purOf_ok (l := purs) (List.forall_mem_cons.2 ⟨Go.Proofs.YtmemeaaccgmeaaaGreat.Y.F82.ok, List.forall_mem_cons.2 ⟨Go.Proofs.YtmemeaaccgmeaaaGreat.A.F91.ok, fun _ h => nomatch h⟩⟩)
theorem cfsOK : ∀ g, SoundF Tryz.prog g (callF g) := fun g => soundF_none g
theorem ok : SoundP Tryz.prog 72 G := by
  unfold G
  refine soundP_pg2 (soundF_run (C := C) (callF := callF) (tabOK C rfl rfl rfl) cfsOK pursOK Tryz.func72 (by kernel_rfl) loopsOK) [.bool] fun r q h => ?_
  rw [main]
  exact spec r q _ h rfl
end F72
namespace F73
noncomputable def purs : List (Nat × (List Ty × (List AV → PV))) := [(82, (Go.Proofs.YtmemeaaccgmeaaaGreat.Y.F82.ts, Go.Proofs.YtmemeaaccgmeaaaGreat.Y.F82.G))]
noncomputable def callF (g : FuncId) : CF := fun _ _ _ => False
noncomputable def loops : List (Nat × (List Nat × (K → Nat → St → Prop))) := []
noncomputable def C : Ctx := { ti := ti, meth := meth, can := can, pur := purOf purs, loops := fun i => seek loops i, gh := fun _ => [], rk := some ([6], 0) }
noncomputable def Main (kd : Int) (st : Int) (va : (List Int)) (k : AV → Prop) : Prop :=
  (bif decide ((↑va.length : Int) > (0 : Int)) then (bif kd != (1 : Int) then k (.v .bool (false)) else (bif st != (1 : Int) then k (.v .bool (false)) else (((6 : Int) ≠ (9 : (Ty.int IntKind.u8).D)) ∧ (((6 : Int) ≠ (12 : (Ty.int IntKind.u8).D)) ∧ (((mPairs ((6 : Int), (1 : Int), (0 : Int), (0 : Int), va, [], false, kd, st, (0 : Int), (0 : Int), (0 : Int), (0 : Int), (0 : Int), [], [], [], ())).length ≤ LB) ∧ k (.v .bool (chk ((6 : Int), (1 : Int), (0 : Int), (0 : Int), va, [], false, kd, st, (0 : Int), (0 : Int), (0 : Int), (0 : Int), (0 : Int), [], [], [], ()) == (0 : Int)))))))) else (((6 : Int) ≠ (9 : (Ty.int IntKind.u8).D)) ∧ (((6 : Int) ≠ (12 : (Ty.int IntKind.u8).D)) ∧ (((mPairs ((6 : Int), (1 : Int), (0 : Int), (0 : Int), va, [], false, kd, st, (0 : Int), (0 : Int), (0 : Int), (0 : Int), (0 : Int), [], [], [], ())).length ≤ LB) ∧ k (.v .bool (chk ((6 : Int), (1 : Int), (0 : Int), (0 : Int), va, [], false, kd, st, (0 : Int), (0 : Int), (0 : Int), (0 : Int), (0 : Int), [], [], [], ()) == (0 : Int)))))))
theorem main (kd : Int) (st : Int) (va : (List Int)) (k : AV → Prop) : (runFn C callF Tryz.f73 [.v (.int .u8) kd, .v (.int .u8) st, .v (.sl (.int .u8)) va] [] (fun r H => coRes H [.bool] r k)) = Main kd st va k := by kernel_rfl
def val (kd : Int) (st : Int) (va : (List Int)) : Bool :=
  (bif decide ((↑va.length : Int) > (0 : Int)) then (bif kd != (1 : Int) then (false) else (bif st != (1 : Int) then (false) else (chk ((6 : Int), (1 : Int), (0 : Int), (0 : Int), va, [], false, kd, st, (0 : Int), (0 : Int), (0 : Int), (0 : Int), (0 : Int), [], [], [], ()) == (0 : Int)))) else (chk ((6 : Int), (1 : Int), (0 : Int), (0 : Int), va, [], false, kd, st, (0 : Int), (0 : Int), (0 : Int), (0 : Int), (0 : Int), [], [], [], ()) == (0 : Int)))
def valAV (x : Bool) : AV := .v .bool x
theorem spec (kd : Int) (st : Int) (va : (List Int)) (k : AV → Prop) (_ : AllP []) (hk : k (.v .bool (val kd st va))) : Main kd st va k := (show (fun x => k (valAV x)) (val kd st va) → Main kd st va k from ((bif_pV (K := fun x => k (valAV x)) (bif_pV (K := fun x => k (valAV x)) (fun _ h => h) (bif_pV (K := fun x => k (valAV x)) (fun _ h => h) (and_c (K := fun x => k (valAV x)) (of_decide_eq_true rfl) (and_c (K := fun x => k (valAV x)) (of_decide_eq_true rfl) (and_c (K := fun x => k (valAV x)) (of_decide_eq_true rfl) (fun _ h => h)))))) (and_c (K := fun x => k (valAV x)) (of_decide_eq_true rfl) (and_c (K := fun x => k (valAV x)) (of_decide_eq_true rfl) (and_c (K := fun x => k (valAV x)) (of_decide_eq_true rfl) (fun _ h => h))))) : True → (fun x => k (valAV x)) (val kd st va) → Main kd st va k) trivial) hk
noncomputable def ts : List Ty := [(.int .u8), (.int .u8), (.sl (.int .u8))]
noncomputable def G : List AV → PV := pg3 (.int .u8) (.int .u8) (.sl (.int .u8)) (fun kd st va => []) (fun kd st va => .v .bool (val kd st va))
theorem loopsOK : LoopsOK C callF (bodyOf Tryz.f73) := loopsOK_seek (tbl := loops) (fun _ => rfl) (by kernel_rfl) (fun _ h => nomatch h)
theorem pursOK : ∀ g ts F, C.pur g = some (ts, F) → SoundP Tryz.prog g F := purOf_ok (l := purs) (List.forall_mem_cons.2 ⟨Go.Proofs.YtmemeaaccgmeaaaGreat.Y.F82.ok, fun _ h => nomatch h⟩)
theorem cfsOK : ∀ g, SoundF Tryz.prog g (callF g) := fun g => soundF_none g
theorem ok : SoundP Tryz.prog 73 G := by
  unfold G
  refine soundP_pg3 (soundF_run (C := C) (callF := callF) (tabOK C rfl rfl rfl) cfsOK pursOK Tryz.func73 (by kernel_rfl) loopsOK) [.bool] fun kd st va h => ?_
  rw [main]
  exact spec kd st va _ h rfl
end F73
namespace F45
noncomputable def purs : List (Nat × (List Ty × (List AV → PV))) := [(55, (Go.Proofs.YtmemeaaccgmeaaaGreat.A.F55.ts, Go.Proofs.YtmemeaaccgmeaaaGreat.A.F55.G)), (72, (Go.Proofs.YtmemeaaccgmeaaaGreat.B.F72.ts, Go.Proofs.YtmemeaaccgmeaaaGreat.B.F72.G)), (73, (Go.Proofs.YtmemeaaccgmeaaaGreat.B.F73.ts, Go.Proofs.YtmemeaaccgmeaaaGreat.B.F73.G))]
noncomputable def callF (g : FuncId) : CF := fun _ _ _ => False
noncomputable def loops : List (Nat × (List Nat × (K → Nat → St → Prop))) := []
noncomputable def C : Ctx := { ti := ti, meth := meth, can := can, pur := purOf purs, loops := fun i => seek loops i, gh := fun _ => [], rk := some ([2], 0) }
noncomputable def Main (c : D74) (k : AV → Prop) : Prop :=
  (bif !F55.val c.fst then k (.v .bool (false)) else ((F72.Pre c.snd.snd.fst c.snd.fst) ∧ (bif !F72.val c.snd.snd.fst c.snd.fst then k (.v .bool (false)) else (bif decide (c.snd.snd.snd.snd.snd.fst < (0 : Int)) then k (.v .bool (false)) else (bif decide (c.snd.snd.snd.snd.snd.fst > (4611686018427387904 : Int)) then k (.v .bool (false)) else (bif c.snd.snd.snd.snd.snd.snd.fst == (-1 : Int) then (bif c.snd.snd.snd.fst == (0 : Int) then k (.v .bool ((↑(List.length c.snd.snd.snd.snd.fst) : Int) == (0 : Int))) else k (.v .bool (false))) else (bif decide (c.snd.snd.snd.snd.snd.snd.fst ≤ c.snd.snd.snd.snd.snd.fst) then k (.v .bool (false)) else (bif decide (c.snd.snd.snd.snd.snd.snd.fst > (4611686018427387904 : Int)) then k (.v .bool (false)) else (bif c.snd.snd.fst.fst == (5 : Int) then (bif c.snd.snd.snd.fst == (1 : Int) then k (.v .bool ((↑(List.length c.snd.snd.snd.snd.fst) : Int) == (0 : Int))) else k (.v .bool (false))) else k (.v .bool (F73.val c.snd.snd.fst.fst c.snd.snd.snd.fst c.snd.snd.snd.snd.fst)))))))))))
theorem main (c : D74) (k : AV → Prop) : (runFn C callF Tryz.f45 [.v (.pair (.int .u8) (.pair (.int .u64) (.pair (.pair (.int .u8) (.pair (.int .u64) (.pair (.int .u64) (.pair (.sl (.int .u8)) (.pair (.sl (.int .u8)) (.pair .bool (.pair (.int .u8) .unit))))))) (.pair (.int .u8) (.pair (.sl (.int .u8)) (.pair (.int .i64) (.pair (.int .i64) .unit))))))) c] [] (fun r H => coRes H [.bool] r k)) = Main c k := by kernel_rfl
def val (c : D74) : Bool :=
  (bif !F55.val c.fst then (false) else (bif !F72.val c.snd.snd.fst c.snd.fst then (false) else (bif decide (c.snd.snd.snd.snd.snd.fst < (0 : Int)) then (false) else (bif decide (c.snd.snd.snd.snd.snd.fst > (4611686018427387904 : Int)) then (false) else (bif c.snd.snd.snd.snd.snd.snd.fst == (-1 : Int) then (bif c.snd.snd.snd.fst == (0 : Int) then ((↑(List.length c.snd.snd.snd.snd.fst) : Int) == (0 : Int)) else (false)) else (bif decide (c.snd.snd.snd.snd.snd.snd.fst ≤ c.snd.snd.snd.snd.snd.fst) then (false) else (bif decide (c.snd.snd.snd.snd.snd.snd.fst > (4611686018427387904 : Int)) then (false) else (bif c.snd.snd.fst.fst == (5 : Int) then (bif c.snd.snd.snd.fst == (1 : Int) then ((↑(List.length c.snd.snd.snd.snd.fst) : Int) == (0 : Int)) else (false)) else (F73.val c.snd.snd.fst.fst c.snd.snd.snd.fst c.snd.snd.snd.snd.fst)))))))))
def Pre (c : D74) : Prop :=
  (bif !F55.val c.fst then True else (F72.Pre c.snd.snd.fst c.snd.fst))
def valAV (x : Bool) : AV := .v .bool x
theorem spec (c : D74) (k : AV → Prop) (h : AllP [Pre c]) (hk : k (.v .bool (val c))) : Main c k := ((bif_PV (K := fun x => k (valAV x)) (fun _ h => h) (and_t (K := fun x => k (valAV x)) (bif_pV (K := fun x => k (valAV x)) (fun _ h => h) (bif_pV (K := fun x => k (valAV x)) (fun _ h => h) (bif_pV (K := fun x => k (valAV x)) (fun _ h => h) (bif_pV (K := fun x => k (valAV x)) (bif_pV (K := fun x => k (valAV x)) (fun _ h => h) (fun _ h => h)) (bif_pV (K := fun x => k (valAV x)) (fun _ h => h) (bif_pV (K := fun x => k (valAV x)) (fun _ h => h) (bif_pV (K := fun x => k (valAV x)) (bif_pV (K := fun x => k (valAV x)) (fun _ h => h) (fun _ h => h)) (fun _ h => h)))))))))) : Pre c → (fun x => k (valAV x)) (val c) → Main c k) h.1 hk
noncomputable def ts : List Ty := [T74]
noncomputable def G : List AV → PV := pg1 T74 (fun c => [Pre c]) (fun c => .v .bool (val c))
theorem loopsOK : LoopsOK C callF (bodyOf Tryz.f45) := loopsOK_seek (tbl := loops) (fun _ => rfl) (by kernel_rfl) (fun _ h => nomatch h)
theorem pursOK : ∀ g ts F, C.pur g = some (ts, F) → SoundP Tryz.prog g F := purOf_ok (l := purs) (List.forall_mem_cons.2 ⟨Go.Proofs.YtmemeaaccgmeaaaGreat.A.F55.ok, List.forall_mem_cons.2 ⟨Go.Proofs.YtmemeaaccgmeaaaGreat.B.F72.ok, List.forall_mem_cons.2 ⟨Go.Proofs.YtmemeaaccgmeaaaGreat.B.F73.ok, fun _ h => nomatch h⟩⟩⟩)
theorem cfsOK : ∀ g, SoundF Tryz.prog g (callF g) := fun g => soundF_none g
theorem ok : SoundP Tryz.prog 45 G := by
  unfold G
  refine soundP_pg1 (soundF_run (C := C) (callF := callF) (tabOK C rfl rfl rfl) cfsOK pursOK Tryz.func45 (by kernel_rfl) loopsOK) [.bool] fun c h => ?_
  rw [main]
  exact spec c _ h rfl
end F45
namespace F75
noncomputable def purs : List (Nat × (List Ty × (List AV → PV))) := [(78, (Go.Proofs.YtmemeaaccgmeaaaGreat.YU.F78.ts, Go.Proofs.YtmemeaaccgmeaaaGreat.YU.F78.G)), (92, (Go.Proofs.YtmemeaaccgmeaaaGreat.A.F92.ts, Go.Proofs.YtmemeaaccgmeaaaGreat.A.F92.G))]
noncomputable def callF (g : FuncId) : CF := fun _ _ _ => False
noncomputable def loops : List (Nat × (List Nat × (K → Nat → St → Prop))) := []
noncomputable def C : Ctx := { ti := ti, meth := meth, can := can, pur := purOf purs, loops := fun i => seek loops i, gh := fun _ => [], rk := some ([4], 0) }
noncomputable def Main (r : D52) (q : Int) (k : AV → Prop) : Prop :=
  ((r.fst = (12 : (Ty.int IntKind.u8).D) → mPairs (F92.val r q) = [] ∧ mSess (F92.val r q) = []) ∧ (((mPairs (F92.val r q)).length ≤ LB) ∧ (((mSess (F92.val r q)).length ≤ LB) ∧ (((0 : (Ty.int IntKind.u8).D) ≤ r.fst ∧ r.fst ≤ (255 : (Ty.int IntKind.u8).D)) ∧ (((0 : Int) ≤ YU.F78.mOf (F92.val r q) ∧ YU.F78.mOf (F92.val r q) ≤ (255 : Int)) ∧ (((0 : Int) ≤ YU.F78.mSt (F92.val r q) ∧ YU.F78.mSt (F92.val r q) ≤ (255 : Int)) ∧ (((0 : (Ty.int IntKind.u64).D) ≤ r.snd.snd.fst) ∧ (bif decide (r.fst ≥ (1 : Int)) then (bif decide (r.fst ≤ (5 : Int)) then k (.v .bool (YU.F78.chkD (F92.val r q) == (0 : Int))) else k (.v .bool (false))) else k (.v .bool (false))))))))))
theorem main (r : D52) (q : Int) (k : AV → Prop) : (runFn C callF Tryz.f75 [.v (.pair (.int .u8) (.pair (.int .u64) (.pair (.int .u64) (.pair (.sl (.int .u8)) (.pair (.sl (.int .u8)) (.pair .bool (.pair (.int .u8) .unit))))))) r, .v (.int .u64) q] [] (fun r H => coRes H [.bool] r k)) = Main r q k := by kernel_rfl
def val (r : D52) (q : Int) : Bool :=
  (bif decide (r.fst ≥ (1 : Int)) then (bif decide (r.fst ≤ (5 : Int)) then (YU.F78.chkD (F92.val r q) == (0 : Int)) else (false)) else (false))
def Pre (r : D52) (q : Int) : Prop :=
  ((r.fst = (12 : (Ty.int IntKind.u8).D) → mPairs (F92.val r q) = [] ∧ mSess (F92.val r q) = []) ∧ (((0 : (Ty.int IntKind.u8).D) ≤ r.fst ∧ r.fst ≤ (255 : (Ty.int IntKind.u8).D)) ∧ ((0 : (Ty.int IntKind.u64).D) ≤ r.snd.snd.fst)))
def valAV (x : Bool) : AV := .v .bool x
theorem spec (r : D52) (q : Int) (k : AV → Prop) (h : AllP [Pre r q]) (hk : k (.v .bool (val r q))) : Main r q k := ((and_p (K := fun x => k (valAV x)) (and_c (K := fun x => k (valAV x)) (of_decide_eq_true rfl) (and_c (K := fun x => k (valAV x)) (of_decide_eq_true rfl) (and_p (K := fun x => k (valAV x)) (and_c (K := fun x => k (valAV x)) (of_decide_eq_true rfl) (and_c (K := fun x => k (valAV x)) (of_decide_eq_true rfl) (and_t (K := fun x => k (valAV x)) (bif_pV (K := fun x => k (valAV x)) (bif_pV (K := fun x => k (valAV x)) (fun _ h => h) (fun _ h => h)) (fun _ h => h))))))))) : Pre r q → (fun x => k (valAV x)) (val r q) → Main r q k) h.1 hk
noncomputable def ts : List Ty := [T52, (.int .u64)]
noncomputable def G : List AV → PV := pg2 T52 (.int .u64) (fun r q => [Pre r q]) (fun r q => .v .bool (val r q))
theorem loopsOK : LoopsOK C callF (bodyOf Tryz.f75) := loopsOK_seek (tbl := loops) (fun _ => rfl) (by kernel_rfl) (fun _ h => nomatch h)
theorem pursOK : ∀ g ts F, C.pur g = some (ts, F) → SoundP Tryz.prog g F := purOf_ok (l := purs) (List.forall_mem_cons.2 ⟨Go.Proofs.YtmemeaaccgmeaaaGreat.YU.F78.ok, List.forall_mem_cons.2 ⟨Go.Proofs.YtmemeaaccgmeaaaGreat.A.F92.ok, fun _ h => nomatch h⟩⟩)
theorem cfsOK : ∀ g, SoundF Tryz.prog g (callF g) := fun g => soundF_none g
theorem ok : SoundP Tryz.prog 75 G := by
  unfold G
  refine soundP_pg2 (soundF_run (C := C) (callF := callF) (tabOK C rfl rfl rfl) cfsOK pursOK Tryz.func75 (by kernel_rfl) loopsOK) [.bool] fun r q h => ?_
  rw [main]
  exact spec r q _ h rfl
end F75
namespace F76
noncomputable def purs : List (Nat × (List Ty × (List AV → PV))) := [(78, (Go.Proofs.YtmemeaaccgmeaaaGreat.YU.F78.ts, Go.Proofs.YtmemeaaccgmeaaaGreat.YU.F78.G))]
noncomputable def callF (g : FuncId) : CF := fun _ _ _ => False
noncomputable def loops : List (Nat × (List Nat × (K → Nat → St → Prop))) := []
noncomputable def C : Ctx := { ti := ti, meth := meth, can := can, pur := purOf purs, loops := fun i => seek loops i, gh := fun _ => [], rk := some ([6], 0) }
noncomputable def Main (kd : Int) (st : Int) (va : (List Int)) (k : AV → Prop) : Prop :=
  (bif decide ((↑va.length : Int) > (0 : Int)) then (bif kd != (1 : Int) then k (.v .bool (false)) else (bif st != (1 : Int) then k (.v .bool (false)) else (((6 : Int) = (12 : (Ty.int IntKind.u8).D) → mPairs ((6 : Int), (1 : Int), (0 : Int), (0 : Int), va, [], false, IntKind.u8.wrap kd, st, (0 : Int), (0 : Int), (0 : Int), (0 : Int), (0 : Int), [], [], [], ()) = [] ∧ mSess ((6 : Int), (1 : Int), (0 : Int), (0 : Int), va, [], false, IntKind.u8.wrap kd, st, (0 : Int), (0 : Int), (0 : Int), (0 : Int), (0 : Int), [], [], [], ()) = []) ∧ (((mPairs ((6 : Int), (1 : Int), (0 : Int), (0 : Int), va, [], false, IntKind.u8.wrap kd, st, (0 : Int), (0 : Int), (0 : Int), (0 : Int), (0 : Int), [], [], [], ())).length ≤ LB) ∧ (((mSess ((6 : Int), (1 : Int), (0 : Int), (0 : Int), va, [], false, IntKind.u8.wrap kd, st, (0 : Int), (0 : Int), (0 : Int), (0 : Int), (0 : Int), [], [], [], ())).length ≤ LB) ∧ (((0 : (Ty.int IntKind.u8).D) ≤ (6 : Int) ∧ (6 : Int) ≤ (255 : (Ty.int IntKind.u8).D)) ∧ (((0 : Int) ≤ YU.F78.mOf ((6 : Int), (1 : Int), (0 : Int), (0 : Int), va, [], false, IntKind.u8.wrap kd, st, (0 : Int), (0 : Int), (0 : Int), (0 : Int), (0 : Int), [], [], [], ()) ∧ YU.F78.mOf ((6 : Int), (1 : Int), (0 : Int), (0 : Int), va, [], false, IntKind.u8.wrap kd, st, (0 : Int), (0 : Int), (0 : Int), (0 : Int), (0 : Int), [], [], [], ()) ≤ (255 : Int)) ∧ (((0 : Int) ≤ YU.F78.mSt ((6 : Int), (1 : Int), (0 : Int), (0 : Int), va, [], false, IntKind.u8.wrap kd, st, (0 : Int), (0 : Int), (0 : Int), (0 : Int), (0 : Int), [], [], [], ()) ∧ YU.F78.mSt ((6 : Int), (1 : Int), (0 : Int), (0 : Int), va, [], false, IntKind.u8.wrap kd, st, (0 : Int), (0 : Int), (0 : Int), (0 : Int), (0 : Int), [], [], [], ()) ≤ (255 : Int)) ∧ (((0 : (Ty.int IntKind.u64).D) ≤ (0 : Int)) ∧ k (.v .bool (YU.F78.chkD ((6 : Int), (1 : Int), (0 : Int), (0 : Int), va, [], false, IntKind.u8.wrap kd, st, (0 : Int), (0 : Int), (0 : Int), (0 : Int), (0 : Int), [], [], [], ()) == (0 : Int)))))))))))) else (((6 : Int) = (12 : (Ty.int IntKind.u8).D) → mPairs ((6 : Int), (1 : Int), (0 : Int), (0 : Int), va, [], false, IntKind.u8.wrap kd, st, (0 : Int), (0 : Int), (0 : Int), (0 : Int), (0 : Int), [], [], [], ()) = [] ∧ mSess ((6 : Int), (1 : Int), (0 : Int), (0 : Int), va, [], false, IntKind.u8.wrap kd, st, (0 : Int), (0 : Int), (0 : Int), (0 : Int), (0 : Int), [], [], [], ()) = []) ∧ (((mPairs ((6 : Int), (1 : Int), (0 : Int), (0 : Int), va, [], false, IntKind.u8.wrap kd, st, (0 : Int), (0 : Int), (0 : Int), (0 : Int), (0 : Int), [], [], [], ())).length ≤ LB) ∧ (((mSess ((6 : Int), (1 : Int), (0 : Int), (0 : Int), va, [], false, IntKind.u8.wrap kd, st, (0 : Int), (0 : Int), (0 : Int), (0 : Int), (0 : Int), [], [], [], ())).length ≤ LB) ∧ (((0 : (Ty.int IntKind.u8).D) ≤ (6 : Int) ∧ (6 : Int) ≤ (255 : (Ty.int IntKind.u8).D)) ∧ (((0 : Int) ≤ YU.F78.mOf ((6 : Int), (1 : Int), (0 : Int), (0 : Int), va, [], false, IntKind.u8.wrap kd, st, (0 : Int), (0 : Int), (0 : Int), (0 : Int), (0 : Int), [], [], [], ()) ∧ YU.F78.mOf ((6 : Int), (1 : Int), (0 : Int), (0 : Int), va, [], false, IntKind.u8.wrap kd, st, (0 : Int), (0 : Int), (0 : Int), (0 : Int), (0 : Int), [], [], [], ()) ≤ (255 : Int)) ∧ (((0 : Int) ≤ YU.F78.mSt ((6 : Int), (1 : Int), (0 : Int), (0 : Int), va, [], false, IntKind.u8.wrap kd, st, (0 : Int), (0 : Int), (0 : Int), (0 : Int), (0 : Int), [], [], [], ()) ∧ YU.F78.mSt ((6 : Int), (1 : Int), (0 : Int), (0 : Int), va, [], false, IntKind.u8.wrap kd, st, (0 : Int), (0 : Int), (0 : Int), (0 : Int), (0 : Int), [], [], [], ()) ≤ (255 : Int)) ∧ (((0 : (Ty.int IntKind.u64).D) ≤ (0 : Int)) ∧ k (.v .bool (YU.F78.chkD ((6 : Int), (1 : Int), (0 : Int), (0 : Int), va, [], false, IntKind.u8.wrap kd, st, (0 : Int), (0 : Int), (0 : Int), (0 : Int), (0 : Int), [], [], [], ()) == (0 : Int)))))))))))
theorem main (kd : Int) (st : Int) (va : (List Int)) (k : AV → Prop) : (runFn C callF Tryz.f76 [.v (.int .i64) kd, .v (.int .u8) st, .v (.sl (.int .u8)) va] [] (fun r H => coRes H [.bool] r k)) = Main kd st va k := by kernel_rfl
def val (kd : Int) (st : Int) (va : (List Int)) : Bool :=
  (bif decide ((↑va.length : Int) > (0 : Int)) then (bif kd != (1 : Int) then (false) else (bif st != (1 : Int) then (false) else (YU.F78.chkD ((6 : Int), (1 : Int), (0 : Int), (0 : Int), va, [], false, IntKind.u8.wrap kd, st, (0 : Int), (0 : Int), (0 : Int), (0 : Int), (0 : Int), [], [], [], ()) == (0 : Int)))) else (YU.F78.chkD ((6 : Int), (1 : Int), (0 : Int), (0 : Int), va, [], false, IntKind.u8.wrap kd, st, (0 : Int), (0 : Int), (0 : Int), (0 : Int), (0 : Int), [], [], [], ()) == (0 : Int)))
def Pre (kd : Int) (st : Int) (va : (List Int)) : Prop :=
  (bif decide ((↑va.length : Int) > (0 : Int)) then (bif kd != (1 : Int) then True else (bif st != (1 : Int) then True else (((0 : Int) ≤ YU.F78.mOf ((6 : Int), (1 : Int), (0 : Int), (0 : Int), va, [], false, IntKind.u8.wrap kd, st, (0 : Int), (0 : Int), (0 : Int), (0 : Int), (0 : Int), [], [], [], ()) ∧ YU.F78.mOf ((6 : Int), (1 : Int), (0 : Int), (0 : Int), va, [], false, IntKind.u8.wrap kd, st, (0 : Int), (0 : Int), (0 : Int), (0 : Int), (0 : Int), [], [], [], ()) ≤ (255 : Int)) ∧ ((0 : Int) ≤ YU.F78.mSt ((6 : Int), (1 : Int), (0 : Int), (0 : Int), va, [], false, IntKind.u8.wrap kd, st, (0 : Int), (0 : Int), (0 : Int), (0 : Int), (0 : Int), [], [], [], ()) ∧ YU.F78.mSt ((6 : Int), (1 : Int), (0 : Int), (0 : Int), va, [], false, IntKind.u8.wrap kd, st, (0 : Int), (0 : Int), (0 : Int), (0 : Int), (0 : Int), [], [], [], ()) ≤ (255 : Int))))) else (((0 : Int) ≤ YU.F78.mOf ((6 : Int), (1 : Int), (0 : Int), (0 : Int), va, [], false, IntKind.u8.wrap kd, st, (0 : Int), (0 : Int), (0 : Int), (0 : Int), (0 : Int), [], [], [], ()) ∧ YU.F78.mOf ((6 : Int), (1 : Int), (0 : Int), (0 : Int), va, [], false, IntKind.u8.wrap kd, st, (0 : Int), (0 : Int), (0 : Int), (0 : Int), (0 : Int), [], [], [], ()) ≤ (255 : Int)) ∧ ((0 : Int) ≤ YU.F78.mSt ((6 : Int), (1 : Int), (0 : Int), (0 : Int), va, [], false, IntKind.u8.wrap kd, st, (0 : Int), (0 : Int), (0 : Int), (0 : Int), (0 : Int), [], [], [], ()) ∧ YU.F78.mSt ((6 : Int), (1 : Int), (0 : Int), (0 : Int), va, [], false, IntKind.u8.wrap kd, st, (0 : Int), (0 : Int), (0 : Int), (0 : Int), (0 : Int), [], [], [], ()) ≤ (255 : Int))))
def valAV (x : Bool) : AV := .v .bool x
theorem spec (kd : Int) (st : Int) (va : (List Int)) (k : AV → Prop) (h : AllP [Pre kd st va]) (hk : k (.v .bool (val kd st va))) : Main kd st va k := ((bif_PV (K := fun x => k (valAV x)) (bif_PV (K := fun x => k (valAV x)) (fun _ h => h) (bif_PV (K := fun x => k (valAV x)) (fun _ h => h) (and_c (K := fun x => k (valAV x)) (of_decide_eq_true rfl) (and_c (K := fun x => k (valAV x)) (of_decide_eq_true rfl) (and_c (K := fun x => k (valAV x)) (of_decide_eq_true rfl) (and_c (K := fun x => k (valAV x)) (of_decide_eq_true rfl) (and_p (K := fun x => k (valAV x)) (and_t (K := fun x => k (valAV x)) (and_c (K := fun x => k (valAV x)) (of_decide_eq_true rfl) (fun _ h => h)))))))))) (and_c (K := fun x => k (valAV x)) (of_decide_eq_true rfl) (and_c (K := fun x => k (valAV x)) (of_decide_eq_true rfl) (and_c (K := fun x => k (valAV x)) (of_decide_eq_true rfl) (and_c (K := fun x => k (valAV x)) (of_decide_eq_true rfl) (and_p (K := fun x => k (valAV x)) (and_t (K := fun x => k (valAV x)) (and_c (K := fun x => k (valAV x)) (of_decide_eq_true rfl) (fun _ h => h))))))))) : Pre kd st va → (fun x => k (valAV x)) (val kd st va) → Main kd st va k) h.1 hk
noncomputable def ts : List Ty := [(.int .i64), (.int .u8), (.sl (.int .u8))]
noncomputable def G : List AV → PV := pg3 (.int .i64) (.int .u8) (.sl (.int .u8)) (fun kd st va => [Pre kd st va]) (fun kd st va => .v .bool (val kd st va))
theorem loopsOK : LoopsOK C callF (bodyOf Tryz.f76) := loopsOK_seek (tbl := loops) (fun _ => rfl) (by kernel_rfl) (fun _ h => nomatch h)
theorem pursOK : ∀ g ts F, C.pur g = some (ts, F) → SoundP Tryz.prog g F := purOf_ok (l := purs) (List.forall_mem_cons.2 ⟨Go.Proofs.YtmemeaaccgmeaaaGreat.YU.F78.ok, fun _ h => nomatch h⟩)
theorem cfsOK : ∀ g, SoundF Tryz.prog g (callF g) := fun g => soundF_none g
theorem ok : SoundP Tryz.prog 76 G := by
  unfold G
  refine soundP_pg3 (soundF_run (C := C) (callF := callF) (tabOK C rfl rfl rfl) cfsOK pursOK Tryz.func76 (by kernel_rfl) loopsOK) [.bool] fun kd st va h => ?_
  rw [main]
  exact spec kd st va _ h rfl
end F76
namespace F46
noncomputable def purs : List (Nat × (List Ty × (List AV → PV))) := [(74, (Go.Proofs.YtmemeaaccgmeaaaGreat.A.F74.ts, Go.Proofs.YtmemeaaccgmeaaaGreat.A.F74.G)), (75, (Go.Proofs.YtmemeaaccgmeaaaGreat.B.F75.ts, Go.Proofs.YtmemeaaccgmeaaaGreat.B.F75.G)), (76, (Go.Proofs.YtmemeaaccgmeaaaGreat.B.F76.ts, Go.Proofs.YtmemeaaccgmeaaaGreat.B.F76.G))]
noncomputable def callF (g : FuncId) : CF := fun _ _ _ => False
noncomputable def loops : List (Nat × (List Nat × (K → Nat → St → Prop))) := []
noncomputable def C : Ctx := { ti := ti, meth := meth, can := can, pur := purOf purs, loops := fun i => seek loops i, gh := fun _ => [], rk := some ([2], 0) }
noncomputable def Main (c : D74) (k : AV → Prop) : Prop :=
  ((F75.Pre c.snd.snd.fst c.snd.fst) ∧ (bif !F74.val c.fst then k (.v .bool (false)) else (bif !F75.val c.snd.snd.fst c.snd.fst then k (.v .bool (false)) else (bif decide (c.snd.snd.snd.snd.snd.fst < (0 : Int)) then k (.v .bool (false)) else (bif decide (c.snd.snd.snd.snd.snd.fst > (4611686018427387904 : Int)) then k (.v .bool (false)) else (bif c.snd.snd.snd.snd.snd.snd.fst == (-1 : Int) then (bif c.snd.snd.snd.fst == (0 : Int) then k (.v .bool ((↑(List.length c.snd.snd.snd.snd.fst) : Int) == (0 : Int))) else k (.v .bool (false))) else (bif decide (c.snd.snd.snd.snd.snd.snd.fst ≤ c.snd.snd.snd.snd.snd.fst) then k (.v .bool (false)) else (bif decide (c.snd.snd.snd.snd.snd.snd.fst > (4611686018427387904 : Int)) then k (.v .bool (false)) else (bif decide ((↑(List.length c.snd.snd.snd.snd.fst) : Int) > (64 : Int)) then k (.v .bool (false)) else ((F76.Pre (IntKind.i64.wrap c.snd.snd.fst.fst) c.snd.snd.snd.fst c.snd.snd.snd.snd.fst) ∧ k (.v .bool (F76.val (IntKind.i64.wrap c.snd.snd.fst.fst) c.snd.snd.snd.fst c.snd.snd.snd.snd.fst))))))))))))
theorem main (c : D74) (k : AV → Prop) : (runFn C callF Tryz.f46 [.v (.pair (.int .u8) (.pair (.int .u64) (.pair (.pair (.int .u8) (.pair (.int .u64) (.pair (.int .u64) (.pair (.sl (.int .u8)) (.pair (.sl (.int .u8)) (.pair .bool (.pair (.int .u8) .unit))))))) (.pair (.int .u8) (.pair (.sl (.int .u8)) (.pair (.int .i64) (.pair (.int .i64) .unit))))))) c] [] (fun r H => coRes H [.bool] r k)) = Main c k := by kernel_rfl
def val (c : D74) : Bool :=
  (bif !F74.val c.fst then (false) else (bif !F75.val c.snd.snd.fst c.snd.fst then (false) else (bif decide (c.snd.snd.snd.snd.snd.fst < (0 : Int)) then (false) else (bif decide (c.snd.snd.snd.snd.snd.fst > (4611686018427387904 : Int)) then (false) else (bif c.snd.snd.snd.snd.snd.snd.fst == (-1 : Int) then (bif c.snd.snd.snd.fst == (0 : Int) then ((↑(List.length c.snd.snd.snd.snd.fst) : Int) == (0 : Int)) else (false)) else (bif decide (c.snd.snd.snd.snd.snd.snd.fst ≤ c.snd.snd.snd.snd.snd.fst) then (false) else (bif decide (c.snd.snd.snd.snd.snd.snd.fst > (4611686018427387904 : Int)) then (false) else (bif decide ((↑(List.length c.snd.snd.snd.snd.fst) : Int) > (64 : Int)) then (false) else (F76.val (IntKind.i64.wrap c.snd.snd.fst.fst) c.snd.snd.snd.fst c.snd.snd.snd.snd.fst)))))))))
def Pre (c : D74) : Prop :=
  ((F75.Pre c.snd.snd.fst c.snd.fst) ∧ (bif !F74.val c.fst then True else (bif !F75.val c.snd.snd.fst c.snd.fst then True else (bif decide (c.snd.snd.snd.snd.snd.fst < (0 : Int)) then True else (bif decide (c.snd.snd.snd.snd.snd.fst > (4611686018427387904 : Int)) then True else (bif c.snd.snd.snd.snd.snd.snd.fst == (-1 : Int) then True else (bif decide (c.snd.snd.snd.snd.snd.snd.fst ≤ c.snd.snd.snd.snd.snd.fst) then True else (bif decide (c.snd.snd.snd.snd.snd.snd.fst > (4611686018427387904 : Int)) then True else (bif decide ((↑(List.length c.snd.snd.snd.snd.fst) : Int) > (64 : Int)) then True else (F76.Pre (IntKind.i64.wrap c.snd.snd.fst.fst) c.snd.snd.snd.fst c.snd.snd.snd.snd.fst))))))))))
def valAV (x : Bool) : AV := .v .bool x
theorem spec (c : D74) (k : AV → Prop) (h : AllP [Pre c]) (hk : k (.v .bool (val c))) : Main c k := ((and_p (K := fun x => k (valAV x)) (bif_PV (K := fun x => k (valAV x)) (fun _ h => h) (bif_PV (K := fun x => k (valAV x)) (fun _ h => h) (bif_PV (K := fun x => k (valAV x)) (fun _ h => h) (bif_PV (K := fun x => k (valAV x)) (fun _ h => h) (bif_PV (K := fun x => k (valAV x)) (bif_pV (K := fun x => k (valAV x)) (fun _ h => h) (fun _ h => h)) (bif_PV (K := fun x => k (valAV x)) (fun _ h => h) (bif_PV (K := fun x => k (valAV x)) (fun _ h => h) (bif_PV (K := fun x => k (valAV x)) (fun _ h => h) (and_t (K := fun x => k (valAV x)) (fun _ h => h))))))))))) : Pre c → (fun x => k (valAV x)) (val c) → Main c k) h.1 hk
noncomputable def ts : List Ty := [T74]
noncomputable def G : List AV → PV := pg1 T74 (fun c => [Pre c]) (fun c => .v .bool (val c))
theorem loopsOK : LoopsOK C callF (bodyOf Tryz.f46) := loopsOK_seek (tbl := loops) (fun _ => rfl) (by kernel_rfl) (fun _ h => nomatch h)
theorem pursOK : ∀ g ts F, C.pur g = some (ts, F) → SoundP Tryz.prog g F := purOf_ok (l := purs) (List.forall_mem_cons.2 ⟨Go.Proofs.YtmemeaaccgmeaaaGreat.A.F74.ok, List.forall_mem_cons.2 ⟨Go.Proofs.YtmemeaaccgmeaaaGreat.B.F75.ok, List.forall_mem_cons.2 ⟨Go.Proofs.YtmemeaaccgmeaaaGreat.B.F76.ok, fun _ h => nomatch h⟩⟩⟩)
theorem cfsOK : ∀ g, SoundF Tryz.prog g (callF g) := fun g => soundF_none g
theorem ok : SoundP Tryz.prog 46 G := by
  unfold G
  refine soundP_pg1 (soundF_run (C := C) (callF := callF) (tabOK C rfl rfl rfl) cfsOK pursOK Tryz.func46 (by kernel_rfl) loopsOK) [.bool] fun c h => ?_
  rw [main]
  exact spec c _ h rfl
end F46

end Go.Proofs.YtmemeaaccgmeaaaGreat.B
