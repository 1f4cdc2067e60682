/- calls, cells, small ones -/
import Derived.Test.YtdjdbjcapenjeaaDxTab
import Derived.Test.YtdjdbjcapenjeaaDx3
import Derived.Test.YtdjdbjcapenjeaaDxTy
import Derived.Test.YtdjdbjcapenjeaaA
set_option linter.unusedVariables false
set_option maxRecDepth 100000
open Go Go.Proofs Go.Proofs.Ytdjdbjcapenjeaa.Dx Go.Proofs.Ytdjdbjcapenjeaa.Dx.TYtdjdbjcapenjeaa
namespace Go.Proofs.Ytdjdbjcapenjeaa.B
namespace F60
noncomputable def purs : List (Nat × (List Ty × (List AV → PV))) := []
noncomputable def callF (g : FuncId) : CF := fun _ _ _ => False
noncomputable def loops : List (Nat × (List Nat × (K → Nat → St → Prop))) := []
noncomputable def C : Ctx := { ti := ti, meth := meth, can := can, pur := purOf purs, loops := fun i => seek loops i, gh := fun _ => [], rk := some ([4], 0) }
noncomputable def Main (a : (List Int)) (b : (List Int)) (k : AV → Prop) : Prop :=
  k (.v .bool ((strOf a).toList == (strOf b).toList))
theorem main (a : (List Int)) (b : (List Int)) (k : AV → Prop) : (runFn C callF Try.f60 [.v (.sl (.int .u8)) a, .v (.sl (.int .u8)) b] [] (fun r H => coRes H [.bool] r k)) = Main a b k := by kernel_rfl
def val (a : (List Int)) (b : (List Int)) : Bool :=
  ((strOf a).toList == (strOf b).toList)
def valAV (x : Bool) : AV := .v .bool x
theorem spec (a : (List Int)) (b : (List Int)) (k : AV → Prop) (_ : AllP []) (hk : k (.v .bool (val a b))) : Main a b k := (show (fun x => k (valAV x)) (val a b) → Main a b k from ((fun _ h => h) : True → (fun x => k (valAV x)) (val a b) → Main a b k) trivial) hk
noncomputable def ts : List Ty := [(.sl (.int .u8)), (.sl (.int .u8))]
noncomputable def G : List AV → PV := pg2 (.sl (.int .u8)) (.sl (.int .u8)) (fun a b => []) (fun a b => .v .bool (val a b))
theorem loopsOK : LoopsOK C callF (bodyOf Try.f60) := loopsOK_seek (tbl := loops) (fun _ => rfl) (by kernel_rfl) (fun _ h => nomatch h)
theorem pursOK : ∀ g ts F, C.pur g = some (ts, F) → SoundP Try.prog g F := purOf_ok (l := purs) (fun _ h => nomatch h)
theorem cfsOK : ∀ g, SoundF Try.prog g (callF g) := fun g => soundF_none g
theorem ok : SoundP Try.prog 60 G := by
  unfold G
  refine soundP_pg2 (soundF_run (C := C) (callF := callF) (tabOK C rfl rfl rfl) cfsOK pursOK Try.func60 (by kernel_rfl) loopsOK) [.bool] fun a b h => ?_
  rw [main]
  exact spec a b _ h rfl
end F60
namespace F50
noncomputable def purs : List (Nat × (List Ty × (List AV → PV))) := [(60, (Go.Proofs.Ytdjdbjcapenjeaa.B.F60.ts, Go.Proofs.Ytdjdbjcapenjeaa.B.F60.G))]
noncomputable def callF (g : FuncId) : CF := fun _ _ _ => False
noncomputable def loops : List (Nat × (List Nat × (K → Nat → St → Prop))) := []
noncomputable def C : Ctx := { ti := ti, meth := meth, can := can, pur := purOf purs, loops := fun i => seek loops i, gh := fun _ => [], rk := some ([4], 0) }
noncomputable def Main (x : D60) (b : (List Int)) (k : AV → Prop) : Prop :=
  (bif x.fst then k (.v .bool (F60.val x.snd.fst b)) else k (.v .bool (false)))
theorem main (x : D60) (b : (List Int)) (k : AV → Prop) : (runFn C callF Try.f50 [.v (.pair .bool (.pair (.sl (.int .u8)) .unit)) x, .v (.sl (.int .u8)) b] [] (fun r H => coRes H [.bool] r k)) = Main x b k := by kernel_rfl
def val (x : D60) (b : (List Int)) : Bool :=
  (bif x.fst then (F60.val x.snd.fst b) else (false))
def valAV (x : Bool) : AV := .v .bool x
theorem spec (x : D60) (b : (List Int)) (k : AV → Prop) (_ : AllP []) (hk : k (.v .bool (val x b))) : Main x b k := (show (fun x => k (valAV x)) (val x b) → Main x b k from ((bif_pV (K := fun x => k (valAV x)) (fun _ h => h) (fun _ h => h)) : True → (fun x => k (valAV x)) (val x b) → Main x b k) trivial) hk
noncomputable def ts : List Ty := [T60, (.sl (.int .u8))]
noncomputable def G : List AV → PV := pg2 T60 (.sl (.int .u8)) (fun x b => []) (fun x b => .v .bool (val x b))
theorem loopsOK : LoopsOK C callF (bodyOf Try.f50) := loopsOK_seek (tbl := loops) (fun _ => rfl) (by kernel_rfl) (fun _ h => nomatch h)
theorem pursOK : ∀ g ts F, C.pur g = some (ts, F) → SoundP Try.prog g F := purOf_ok (l := purs) (List.forall_mem_cons.2 ⟨Go.Proofs.Ytdjdbjcapenjeaa.B.F60.ok, fun _ h => nomatch h⟩)
theorem cfsOK : ∀ g, SoundF Try.prog g (callF g) := fun g => soundF_none g
theorem ok : SoundP Try.prog 50 G := by
  unfold G
  refine soundP_pg2 (soundF_run (C := C) (callF := callF) (tabOK C rfl rfl rfl) cfsOK pursOK Try.func50 (by kernel_rfl) loopsOK) [.bool] fun x b h => ?_
  rw [main]
  exact spec x b _ h rfl
end F50
namespace F51
noncomputable def purs : List (Nat × (List Ty × (List AV → PV))) := [(50, (Go.Proofs.Ytdjdbjcapenjeaa.B.F50.ts, Go.Proofs.Ytdjdbjcapenjeaa.B.F50.G))]
noncomputable def callF (g : FuncId) : CF := fun _ _ _ => False
noncomputable def loops : List (Nat × (List Nat × (K → Nat → St → Prop))) := []
noncomputable def C : Ctx := { ti := ti, meth := meth, can := can, pur := purOf purs, loops := fun i => seek loops i, gh := fun _ => [], rk := some ([4], 0) }
noncomputable def Main (r : D27) (x : D60) (k : AV → Prop) : Prop :=
  (bif r.snd.snd.snd.snd.snd.fst then k (.v .bool (F50.val x r.snd.snd.snd.snd.fst)) else k (.v .bool (!x.fst)))
theorem main (r : D27) (x : D60) (k : AV → Prop) : (runFn C callF Try.f51 [.v (.ptr (.pair (.int .u8) (.pair (.int .u64) (.pair (.int .u64) (.pair (.sl (.int .u8)) (.pair (.sl (.int .u8)) (.pair .bool (.pair (.int .u8) .unit)))))))) r, .v (.pair .bool (.pair (.sl (.int .u8)) .unit)) x] [] (fun r H => coRes H [.bool] r k)) = Main r x k := by kernel_rfl
def val (r : D27) (x : D60) : Bool :=
  (bif r.snd.snd.snd.snd.snd.fst then (F50.val x r.snd.snd.snd.snd.fst) else (!x.fst))
def valAV (x : Bool) : AV := .v .bool x
theorem spec (r : D27) (x : D60) (k : AV → Prop) (_ : AllP []) (hk : k (.v .bool (val r x))) : Main r x k := (show (fun x => k (valAV x)) (val r x) → Main r x k from ((bif_pV (K := fun x => k (valAV x)) (fun _ h => h) (fun _ h => h)) : True → (fun x => k (valAV x)) (val r x) → Main r x k) trivial) hk
noncomputable def ts : List Ty := [(.ptr T27), T60]
noncomputable def G : List AV → PV := pg2 (.ptr T27) T60 (fun r x => []) (fun r x => .v .bool (val r x))
theorem loopsOK : LoopsOK C callF (bodyOf Try.f51) := loopsOK_seek (tbl := loops) (fun _ => rfl) (by kernel_rfl) (fun _ h => nomatch h)
theorem pursOK : ∀ g ts F, C.pur g = some (ts, F) → SoundP Try.prog g F := purOf_ok (l := purs) (List.forall_mem_cons.2 ⟨Go.Proofs.Ytdjdbjcapenjeaa.B.F50.ok, fun _ h => nomatch h⟩)
theorem cfsOK : ∀ g, SoundF Try.prog g (callF g) := fun g => soundF_none g
theorem ok : SoundP Try.prog 51 G := by
  unfold G
  refine soundP_pg2 (soundF_run (C := C) (callF := callF) (tabOK C rfl rfl rfl) cfsOK pursOK Try.func51 (by kernel_rfl) loopsOK) [.bool] fun r x h => ?_
  rw [main]
  exact spec r x _ h rfl
end F51
namespace F29
noncomputable def purs : List (Nat × (List Ty × (List AV → PV))) := [(41, (Go.Proofs.Ytdjdbjcapenjeaa.A.F41.ts, Go.Proofs.Ytdjdbjcapenjeaa.A.F41.G)), (50, (Go.Proofs.Ytdjdbjcapenjeaa.B.F50.ts, Go.Proofs.Ytdjdbjcapenjeaa.B.F50.G)), (51, (Go.Proofs.Ytdjdbjcapenjeaa.B.F51.ts, Go.Proofs.Ytdjdbjcapenjeaa.B.F51.G))]
noncomputable def callF (g : FuncId) : CF := fun _ _ _ => False
noncomputable def loops : List (Nat × (List Nat × (K → Nat → St → Prop))) := []
noncomputable def C : Ctx := { ti := ti, meth := meth, can := can, pur := purOf purs, loops := fun i => seek loops i, gh := fun _ => [] }
noncomputable def Main (c : D30) (x : D60) (k : AV → Prop) : Prop :=
  (bif c.snd.snd.snd.fst == (1 : Int) then (bif c.snd.snd.fst.fst == (1 : Int) then (bif A.F41.val c then (bif !true == x.fst then k (.tup [⟨T60, ((false), (([]), ()))⟩, ⟨.bool, (false)⟩]) else (bif !F50.val x c.snd.snd.snd.snd.fst then k (.tup [⟨T60, ((false), (([]), ()))⟩, ⟨.bool, (false)⟩]) else k (.tup [⟨T60, (x)⟩, ⟨.bool, (true)⟩]))) else k (.tup [⟨T60, (x)⟩, ⟨.bool, (true)⟩])) else (bif c.snd.snd.fst.fst == (2 : Int) then k (.tup [⟨T60, ((true), ((c.snd.snd.fst.snd.snd.snd.fst), ()))⟩, ⟨.bool, (true)⟩]) else (bif c.snd.snd.fst.fst == (3 : Int) then (bif !A.F41.val c then k (.tup [⟨T60, ((false), (([]), ()))⟩, ⟨.bool, (true)⟩]) else k (.tup [⟨T60, ((false), (([]), ()))⟩, ⟨.bool, (true == x.fst)⟩])) else (bif c.snd.snd.fst.fst == (4 : Int) then (bif F51.val c.snd.snd.fst x then k (.tup [⟨T60, ((true), ((c.snd.snd.fst.snd.snd.snd.fst), ()))⟩, ⟨.bool, (true)⟩]) else (bif !A.F41.val c then k (.tup [⟨T60, (x)⟩, ⟨.bool, (true)⟩]) else (bif c.snd.snd.snd.fst == (3 : Int) then k (.tup [⟨T60, (x)⟩, ⟨.bool, (!F51.val c.snd.snd.fst x)⟩]) else (bif c.snd.snd.snd.fst == (4 : Int) then k (.tup [⟨T60, (x)⟩, ⟨.bool, (!x.fst)⟩]) else k (.tup [⟨T60, (x)⟩, ⟨.bool, (false)⟩]))))) else k (.tup [⟨T60, ((false), (([]), ()))⟩, ⟨.bool, (false)⟩]))))) else (bif c.snd.snd.fst.fst == (1 : Int) then (bif A.F41.val c then (bif !(!A.F41.val c) == x.fst then k (.tup [⟨T60, ((false), (([]), ()))⟩, ⟨.bool, (false)⟩]) else (bif !A.F41.val c then (bif !F50.val x c.snd.snd.snd.snd.fst then k (.tup [⟨T60, ((false), (([]), ()))⟩, ⟨.bool, (false)⟩]) else k (.tup [⟨T60, (x)⟩, ⟨.bool, (true)⟩])) else k (.tup [⟨T60, (x)⟩, ⟨.bool, (true)⟩]))) else k (.tup [⟨T60, (x)⟩, ⟨.bool, (true)⟩])) else (bif c.snd.snd.fst.fst == (2 : Int) then (bif !A.F41.val c then k (.tup [⟨T60, ((true), ((c.snd.snd.fst.snd.snd.snd.fst), ()))⟩, ⟨.bool, (true)⟩]) else k (.tup [⟨T60, (x)⟩, ⟨.bool, (!x.fst)⟩])) else (bif c.snd.snd.fst.fst == (3 : Int) then (bif !A.F41.val c then k (.tup [⟨T60, ((false), (([]), ()))⟩, ⟨.bool, (true)⟩]) else k (.tup [⟨T60, ((false), (([]), ()))⟩, ⟨.bool, ((!A.F41.val c) == x.fst)⟩])) else (bif c.snd.snd.fst.fst == (4 : Int) then (bif !A.F41.val c then (bif F51.val c.snd.snd.fst x then k (.tup [⟨T60, ((true), ((c.snd.snd.fst.snd.snd.snd.fst), ()))⟩, ⟨.bool, (true)⟩]) else (bif !A.F41.val c then k (.tup [⟨T60, (x)⟩, ⟨.bool, (true)⟩]) else (bif c.snd.snd.snd.fst == (3 : Int) then k (.tup [⟨T60, (x)⟩, ⟨.bool, (!F51.val c.snd.snd.fst x)⟩]) else (bif c.snd.snd.snd.fst == (4 : Int) then k (.tup [⟨T60, (x)⟩, ⟨.bool, (!x.fst)⟩]) else k (.tup [⟨T60, (x)⟩, ⟨.bool, (false)⟩]))))) else (bif !A.F41.val c then k (.tup [⟨T60, (x)⟩, ⟨.bool, (true)⟩]) else (bif c.snd.snd.snd.fst == (3 : Int) then k (.tup [⟨T60, (x)⟩, ⟨.bool, (!F51.val c.snd.snd.fst x)⟩]) else (bif c.snd.snd.snd.fst == (4 : Int) then k (.tup [⟨T60, (x)⟩, ⟨.bool, (!x.fst)⟩]) else k (.tup [⟨T60, (x)⟩, ⟨.bool, (false)⟩]))))) else k (.tup [⟨T60, ((false), (([]), ()))⟩, ⟨.bool, (false)⟩]))))))
theorem main (c : D30) (x : D60) (k : AV → Prop) : (runFn C callF Try.f29 [.v (.ptr (.pair (.int .u8) (.pair (.int .u64) (.pair (.pair (.int .u8) (.pair (.int .u64) (.pair (.int .u64) (.pair (.sl (.int .u8)) (.pair (.sl (.int .u8)) (.pair .bool (.pair (.int .u8) .unit))))))) (.pair (.int .u8) (.pair (.sl (.int .u8)) (.pair (.int .i64) (.pair (.int .i64) .unit)))))))) c, .v (.pair .bool (.pair (.sl (.int .u8)) .unit)) x] [] (fun r H => coRes H [(.pair .bool (.pair (.sl (.int .u8)) .unit)), .bool] r k)) = Main c x k := by kernel_rfl
def val (c : D30) (x : D60) : D60 × Bool :=
  (bif c.snd.snd.snd.fst == (1 : Int) then (bif c.snd.snd.fst.fst == (1 : Int) then (bif A.F41.val c then (bif !true == x.fst then (((false), (([]), ())), (false)) else (bif !F50.val x c.snd.snd.snd.snd.fst then (((false), (([]), ())), (false)) else ((x), (true)))) else ((x), (true))) else (bif c.snd.snd.fst.fst == (2 : Int) then (((true), ((c.snd.snd.fst.snd.snd.snd.fst), ())), (true)) else (bif c.snd.snd.fst.fst == (3 : Int) then (bif !A.F41.val c then (((false), (([]), ())), (true)) else (((false), (([]), ())), (true == x.fst))) else (bif c.snd.snd.fst.fst == (4 : Int) then (bif F51.val c.snd.snd.fst x then (((true), ((c.snd.snd.fst.snd.snd.snd.fst), ())), (true)) else (bif !A.F41.val c then ((x), (true)) else (bif c.snd.snd.snd.fst == (3 : Int) then ((x), (!F51.val c.snd.snd.fst x)) else (bif c.snd.snd.snd.fst == (4 : Int) then ((x), (!x.fst)) else ((x), (false)))))) else (((false), (([]), ())), (false)))))) else (bif c.snd.snd.fst.fst == (1 : Int) then (bif A.F41.val c then (bif !(!A.F41.val c) == x.fst then (((false), (([]), ())), (false)) else (bif !A.F41.val c then (bif !F50.val x c.snd.snd.snd.snd.fst then (((false), (([]), ())), (false)) else ((x), (true))) else ((x), (true)))) else ((x), (true))) else (bif c.snd.snd.fst.fst == (2 : Int) then (bif !A.F41.val c then (((true), ((c.snd.snd.fst.snd.snd.snd.fst), ())), (true)) else ((x), (!x.fst))) else (bif c.snd.snd.fst.fst == (3 : Int) then (bif !A.F41.val c then (((false), (([]), ())), (true)) else (((false), (([]), ())), ((!A.F41.val c) == x.fst))) else (bif c.snd.snd.fst.fst == (4 : Int) then (bif !A.F41.val c then (bif F51.val c.snd.snd.fst x then (((true), ((c.snd.snd.fst.snd.snd.snd.fst), ())), (true)) else (bif !A.F41.val c then ((x), (true)) else (bif c.snd.snd.snd.fst == (3 : Int) then ((x), (!F51.val c.snd.snd.fst x)) else (bif c.snd.snd.snd.fst == (4 : Int) then ((x), (!x.fst)) else ((x), (false)))))) else (bif !A.F41.val c then ((x), (true)) else (bif c.snd.snd.snd.fst == (3 : Int) then ((x), (!F51.val c.snd.snd.fst x)) else (bif c.snd.snd.snd.fst == (4 : Int) then ((x), (!x.fst)) else ((x), (false)))))) else (((false), (([]), ())), (false)))))))
def valAV (x : D60 × Bool) : AV := .tup [⟨T60, x.1⟩, ⟨.bool, x.2⟩]
theorem spec (c : D30) (x : D60) (k : AV → Prop) (_ : AllP []) (hk : k (.tup [⟨T60, (val c x).1⟩, ⟨.bool, (val c x).2⟩])) : Main c x k := (show (fun x => k (valAV x)) (val c x) → Main c x k from ((bif_pV (K := fun x => k (valAV x)) (bif_pV (K := fun x => k (valAV x)) (bif_pV (K := fun x => k (valAV x)) (bif_pV (K := fun x => k (valAV x)) (fun _ h => h) (bif_pV (K := fun x => k (valAV x)) (fun _ h => h) (fun _ h => h))) (fun _ h => h)) (bif_pV (K := fun x => k (valAV x)) (fun _ h => h) (bif_pV (K := fun x => k (valAV x)) (bif_pV (K := fun x => k (valAV x)) (fun _ h => h) (fun _ h => h)) (bif_pV (K := fun x => k (valAV x)) (bif_pV (K := fun x => k (valAV x)) (fun _ h => h) (bif_pV (K := fun x => k (valAV x)) (fun _ h => h) (bif_pV (K := fun x => k (valAV x)) (fun _ h => h) (bif_pV (K := fun x => k (valAV x)) (fun _ h => h) (fun _ h => h))))) (fun _ h => h))))) (bif_pV (K := fun x => k (valAV x)) (bif_pV (K := fun x => k (valAV x)) (bif_pV (K := fun x => k (valAV x)) (fun _ h => h) (bif_pV (K := fun x => k (valAV x)) (bif_pV (K := fun x => k (valAV x)) (fun _ h => h) (fun _ h => h)) (fun _ h => h))) (fun _ h => h)) (bif_pV (K := fun x => k (valAV x)) (bif_pV (K := fun x => k (valAV x)) (fun _ h => h) (fun _ h => h)) (bif_pV (K := fun x => k (valAV x)) (bif_pV (K := fun x => k (valAV x)) (fun _ h => h) (fun _ h => h)) (bif_pV (K := fun x => k (valAV x)) (bif_pV (K := fun x => k (valAV x)) (bif_pV (K := fun x => k (valAV x)) (fun _ h => h) (bif_pV (K := fun x => k (valAV x)) (fun _ h => h) (bif_pV (K := fun x => k (valAV x)) (fun _ h => h) (bif_pV (K := fun x => k (valAV x)) (fun _ h => h) (fun _ h => h))))) (bif_pV (K := fun x => k (valAV x)) (fun _ h => h) (bif_pV (K := fun x => k (valAV x)) (fun _ h => h) (bif_pV (K := fun x => k (valAV x)) (fun _ h => h) (fun _ h => h))))) (fun _ h => h)))))) : True → (fun x => k (valAV x)) (val c x) → Main c x k) trivial) hk
noncomputable def ts : List Ty := [(.ptr T30), T60]
noncomputable def G : List AV → PV := pg2 (.ptr T30) T60 (fun c x => []) (fun c x => .tup [⟨T60, (val c x).1⟩, ⟨.bool, (val c x).2⟩])
theorem loopsOK : LoopsOK C callF (bodyOf Try.f29) := loopsOK_seek (tbl := loops) (fun _ => rfl) (by kernel_rfl) (fun _ h => nomatch h)
theorem pursOK : ∀ g ts F, C.pur g = some (ts, F) → SoundP Try.prog g F := purOf_ok (l := purs) (List.forall_mem_cons.2 ⟨Go.Proofs.Ytdjdbjcapenjeaa.A.F41.ok, List.forall_mem_cons.2 ⟨Go.Proofs.Ytdjdbjcapenjeaa.B.F50.ok, List.forall_mem_cons.2 ⟨Go.Proofs.Ytdjdbjcapenjeaa.B.F51.ok, fun _ h => nomatch h⟩⟩⟩)
theorem cfsOK : ∀ g, SoundF Try.prog g (callF g) := fun g => soundF_none g
theorem ok : SoundP Try.prog 29 G := by
  unfold G
  refine soundP_pg2 (soundF_run (C := C) (callF := callF) (tabOK C rfl rfl rfl) cfsOK pursOK Try.func29 (by kernel_rfl) loopsOK) [T60, .bool] fun c x h => ?_
  rw [main]
  exact spec c x _ h rfl
end F29
namespace F49
noncomputable def purs : List (Nat × (List Ty × (List AV → PV))) := []
noncomputable def callF (g : FuncId) : CF := fun _ _ _ => False
noncomputable def loops : List (Nat × (List Nat × (K → Nat → St → Prop))) := []
noncomputable def C : Ctx := { ti := ti, meth := meth, can := can, pur := purOf purs, loops := fun i => seek loops i, gh := fun _ => [] }
noncomputable def Main (kd : Int) (k : AV → Prop) : Prop :=
  (bif kd == (1 : Int) then (bif kd == (1 : Int) then (((0 : Nat) + (2 : Nat) ≤ (2 : Nat)) ∧ k (.v (.sl (.int .u8)) ([(1 : Int), (2 : Int)]))) else (bif kd == (2 : Int) then (((0 : Nat) + (2 : Nat) ≤ (2 : Nat)) ∧ k (.v (.sl (.int .u8)) ([(1 : Int), (4 : Int)]))) else (bif kd == (4 : Int) then (((0 : Nat) + (3 : Nat) ≤ (3 : Nat)) ∧ k (.v (.sl (.int .u8)) ([(1 : Int), (3 : Int), (4 : Int)]))) else (((0 : Nat) + (1 : Nat) ≤ (1 : Nat)) ∧ k (.v (.sl (.int .u8)) ([(1 : Int)])))))) else (bif kd == (3 : Int) then (((0 : Nat) + (2 : Nat) ≤ (2 : Nat)) ∧ k (.v (.sl (.int .u8)) ([(1 : Int), (2 : Int)]))) else (bif kd == (2 : Int) then (((0 : Nat) + (2 : Nat) ≤ (2 : Nat)) ∧ k (.v (.sl (.int .u8)) ([(1 : Int), (4 : Int)]))) else (bif kd == (4 : Int) then (((0 : Nat) + (3 : Nat) ≤ (3 : Nat)) ∧ k (.v (.sl (.int .u8)) ([(1 : Int), (3 : Int), (4 : Int)]))) else (((0 : Nat) + (1 : Nat) ≤ (1 : Nat)) ∧ k (.v (.sl (.int .u8)) ([(1 : Int)])))))))
theorem main (kd : Int) (k : AV → Prop) : (runFn C callF Try.f49 [.v (.int .u8) kd] [] (fun r H => coRes H [(.sl (.int .u8))] r k)) = Main kd k := by kernel_rfl
def val (kd : Int) : (List Int) :=
  (bif kd == (1 : Int) then (bif kd == (1 : Int) then ([(1 : Int), (2 : Int)]) else (bif kd == (2 : Int) then ([(1 : Int), (4 : Int)]) else (bif kd == (4 : Int) then ([(1 : Int), (3 : Int), (4 : Int)]) else ([(1 : Int)])))) else (bif kd == (3 : Int) then ([(1 : Int), (2 : Int)]) else (bif kd == (2 : Int) then ([(1 : Int), (4 : Int)]) else (bif kd == (4 : Int) then ([(1 : Int), (3 : Int), (4 : Int)]) else ([(1 : Int)])))))
def valAV (x : (List Int)) : AV := .v (.sl (.int .u8)) x
theorem spec (kd : Int) (k : AV → Prop) (_ : AllP []) (hk : k (.v (.sl (.int .u8)) (val kd))) : Main kd k := (show (fun x => k (valAV x)) (val kd) → Main kd k from ((bif_pV (K := fun x => k (valAV x)) (bif_pV (K := fun x => k (valAV x)) (and_c (K := fun x => k (valAV x)) (of_decide_eq_true rfl) (fun _ h => h)) (bif_pV (K := fun x => k (valAV x)) (and_c (K := fun x => k (valAV x)) (of_decide_eq_true rfl) (fun _ h => h)) (bif_pV (K := fun x => k (valAV x)) (and_c (K := fun x => k (valAV x)) (of_decide_eq_true rfl) (fun _ h => h)) (and_c (K := fun x => k (valAV x)) (of_decide_eq_true rfl) (fun _ h => h))))) (bif_pV (K := fun x => k (valAV x)) (and_c (K := fun x => k (valAV x)) (of_decide_eq_true rfl) (fun _ h => h)) (bif_pV (K := fun x => k (valAV x)) (and_c (K := fun x => k (valAV x)) (of_decide_eq_true rfl) (fun _ h => h)) (bif_pV (K := fun x => k (valAV x)) (and_c (K := fun x => k (valAV x)) (of_decide_eq_true rfl) (fun _ h => h)) (and_c (K := fun x => k (valAV x)) (of_decide_eq_true rfl) (fun _ h => h)))))) : True → (fun x => k (valAV x)) (val kd) → Main kd k) trivial) hk
noncomputable def ts : List Ty := [(.int .u8)]
noncomputable def G : List AV → PV := pg1 (.int .u8) (fun kd => []) (fun kd => .v (.sl (.int .u8)) (val kd))
theorem loopsOK : LoopsOK C callF (bodyOf Try.f49) := loopsOK_seek (tbl := loops) (fun _ => rfl) (by kernel_rfl) (fun _ h => nomatch h)
theorem pursOK : ∀ g ts F, C.pur g = some (ts, F) → SoundP Try.prog g F := purOf_ok (l := purs) (fun _ h => nomatch h)
theorem cfsOK : ∀ g, SoundF Try.prog g (callF g) := fun g => soundF_none g
theorem ok : SoundP Try.prog 49 G := by
  unfold G
  refine soundP_pg1 (soundF_run (C := C) (callF := callF) (tabOK C rfl rfl rfl) cfsOK pursOK Try.func49 (by kernel_rfl) loopsOK) [(.sl (.int .u8))] fun kd h => ?_
  rw [main]
  exact spec kd _ h rfl
end F49
namespace F17
abbrev V4 := (List Int) × (List Int) × Int
noncomputable def st4 (v : V4) : St := ⟨[.v (.sl (.int .i64)) (v.1), .v (.sl (.int .i64)) (v.2.1), .dead, .dead, .dead, .v (.int .i64) (v.2.2), .dead, .dead, .dead, .dead, .dead, .dead, .dead, .dead, .dead, .dead, .dead, .dead, .dead, .dead, .dead, .dead, .dead, .dead, .dead, .dead], []⟩
noncomputable def dec4 (s : St) : Option V4 := match gV (.sl (.int .i64)) (s.T.getD 0 .dead), gV (.sl (.int .i64)) (s.T.getD 1 .dead), gV (.int .i64) (s.T.getD 5 .dead) with | some a0, some a1, some a5 => some (a0, a1, a5) | _, _, _ => none
noncomputable def keep4 : List Nat := [0, 1, 5]
noncomputable def body4 : Code := bodyAt (loopsOf (bodyOf Try.f17)) 4
noncomputable def s0 (x4 : Bool) : St := ⟨[.dead, .dead, .dead, .dead, .v .bool x4, .dead, .dead, .dead, .dead, .dead, .dead, .dead, .dead, .dead, .dead, .dead, .dead, .dead, .dead, .dead, .dead, .dead, .dead, .dead, .dead, .dead], []⟩
noncomputable def s1 : St := ⟨[.dead, .dead, .dead, .dead, .dead, .dead, .dead, .dead, .dead, .dead, .dead, .dead, .dead, .dead, .dead, .dead, .dead, .dead, .dead, .dead, .dead, .dead, .dead, .dead, .dead, .dead], []⟩
def val (a b : List Int) : Bool := decide (a = b)
def Q4 : V4 → (Nat → St → Prop) → (St → Prop) → Prop := fun (a, b, i) X R => 0 ≤ i ∧ i ≤ a.length ∧ a.length = b.length ∧ a.length ≤ LB ∧ bif decide (a.drop i.toNat = b.drop i.toNat) then X 0 s1 else R (s0 false)
noncomputable def purs : List (Nat × (List Ty × (List AV → PV))) := []
noncomputable def callF (g : FuncId) : CF := fun _ _ _ => False
noncomputable def L4 : K → Nat → St → Prop := mkL dec4 st4 0 0 [] Q4
noncomputable def loops : List (Nat × (List Nat × (K → Nat → St → Prop))) := [(4, (keep4, L4))]
noncomputable def C : Ctx := { ti := ti, meth := meth, can := can, pur := purOf purs, loops := fun i => seek loops i, gh := fun _ => [], xk := fun i => seek [(0, ([], 0))] i, rk := some ([4], 0) }
noncomputable def Round4 (x0 : (List Int)) (x1 : (List Int)) (x5 : Int) (N : St → Prop) (X : Nat → St → Prop) (R : St → Prop) : Prop :=
  (bif decide (x5 < (↑x0.length : Int)) then (((0 : Int) ≤ x5) ∧ ((x5 < (↑x0.length : Int)) ∧ (((0 : Int) ≤ x5) ∧ ((x5 < (↑x1.length : Int)) ∧ (bif x0.getD x5.toNat (0 : Int) != x1.getD x5.toNat (0 : Int) then R (s0 (false)) else N (st4 (x0, x1, IntKind.i64.wrap (x5 + (1 : Int))))))))) else X 0 (s1))
theorem round4 (x0 : (List Int)) (x1 : (List Int)) (x5 : Int) (N : St → Prop) (X : Nat → St → Prop) (R : St → Prop) : exec C callF body4 ⟨0, [0], fun s' => cond (Nat.ble 0 s'.H.length) (N (scrub keep4 0 s')) False, X, R⟩ (st4 (x0, x1, x5)) = Round4 x0 x1 x5 N X R := by kernel_rfl
noncomputable def Main (a : (List Int)) (b : (List Int)) (k : AV → Prop) : Prop :=
  (bif (↑a.length : Int) != (↑b.length : Int) then k (.v .bool (false)) else (st4 (a, b, (0 : Int)) = st4 (a, b, (0 : Int)) ∧ (((0 : Int) ≤ (0 : Int)) ∧ (((0 : Int) ≤ (↑a.length : Int)) ∧ ((a.length = b.length) ∧ ((a.length ≤ LB) ∧ (bif decide (a = b) then k (.v .bool (true)) else k (.v .bool (false)))))))))
theorem main (a : (List Int)) (b : (List Int)) (k : AV → Prop) : (runFn C callF Try.f17 [.v (.sl (.int .i64)) a, .v (.sl (.int .i64)) b] [] (fun r H => coRes H [.bool] r k)) = Main a b k := by kernel_rfl
theorem loop4 (v : V4) (X : Nat → St → Prop) (R : St → Prop) : Q4 v X R → ∃ m, loopN C callF keep4 0 body4 ⟨0, [], fun _ => False, X, R⟩ m (st4 v) := by
  refine loop_ind (fun v => Q4 v X R) (fun v => v.1.length - v.2.2.toNat) ?_ v
  rintro ⟨a, b, i⟩ ⟨h0, h1, h2, h3, h4⟩ N hN
  rw [round4]
  obtain ⟨j, rfl⟩ : ∃ j : Nat, i = j := ⟨i.toNat, by omega⟩
  dsimp only at hN
  rw [Int.toNat_natCast] at h4
  have h3' : a.length ≤ 1073741824 := h3
  refine bif_d (fun hj => ⟨by omega, hj, by omega, by omega, ?_⟩) (fun hj => ?_)
  · rw [drop_cons (l := a) (by omega) 0, drop_cons (l := b) (by omega) 0] at h4
    rw [Int.toNat_natCast]
    refine bif_ne (fun hne => ?_) (fun he => ?_)
    · rwa [decide_eq_false (fun h => hne (List.cons.inj h).1)] at h4
    · rw [w64n (by omega)]
      refine hN _ ⟨by omega, by omega, h2, h3, ?_⟩ (by dsimp only; omega)
      rw [Int.toNat_natCast]
      by_cases hd : a.drop (j + 1) = b.drop (j + 1)
      · rw [decide_eq_true (by rw [hd, he])] at h4
        rwa [decide_eq_true hd]
      · rw [decide_eq_false (fun h => hd (List.cons.inj h).2)] at h4
        rwa [decide_eq_false hd]
  · rw [List.drop_eq_nil_of_le (by omega), List.drop_eq_nil_of_le (by omega)] at h4
    exact h4
theorem spec (a b : List Int) (k : AV → Prop) (h : AllP [a.length ≤ LB]) (hk : k (.v .bool (val a b))) : Main a b k := by
  unfold Main
  unfold val at hk
  refine bif_ne (fun hne => ?_) (fun he => ⟨rfl, by omega, by omega, by omega, h.1, ?_⟩)
  · rwa [decide_eq_false (fun e => hne (by rw [e]))] at hk
  · by_cases hd : a = b
    · rw [decide_eq_true hd] at hk
      exact bif_d (fun _ => hk) (fun hn => absurd (by rw [hd]) hn)
    · rw [decide_eq_false hd] at hk
      exact bif_d (fun hn => absurd hn hd) (fun _ => hk)
noncomputable def ts : List Ty := [(.sl (.int .i64)), (.sl (.int .i64))]
noncomputable def G : List AV → PV := pg2 (.sl (.int .i64)) (.sl (.int .i64)) (fun a b => [a.length ≤ LB]) (fun a b => .v .bool (val a b))
theorem loopsOK : LoopsOK C callF (bodyOf Try.f17) := loopsOK_seek (tbl := loops) (fun _ => rfl) (by kernel_rfl) (List.forall_mem_cons.2 ⟨mkL_ok loop4, fun _ h => nomatch h⟩)
theorem pursOK : ∀ g ts F, C.pur g = some (ts, F) → SoundP Try.prog g F := purOf_ok (l := purs) (fun _ h => nomatch h)
theorem cfsOK : ∀ g, SoundF Try.prog g (callF g) := fun g => soundF_none g
theorem ok : SoundP Try.prog 17 G := by
  unfold G
  refine soundP_pg2 (soundF_run (C := C) (callF := callF) (tabOK C rfl rfl rfl) cfsOK pursOK Try.func17 (by kernel_rfl) loopsOK) [.bool] fun a b h => ?_
  rw [main]
  exact spec a b _ h rfl
end F17
namespace F47
abbrev V4 := (List Int) × (List Int) × Int
noncomputable def st4 (v : V4) : St := ⟨[.v (.sl (.int .u8)) (v.1), .v (.sl (.int .u8)) (v.2.1), .dead, .dead, .dead, .v (.int .i64) (v.2.2), .dead, .dead, .dead, .dead, .dead, .dead, .dead, .dead, .dead, .dead, .dead, .dead, .dead, .dead, .dead, .dead, .dead, .dead, .dead, .dead], []⟩
noncomputable def dec4 (s : St) : Option V4 := match gV (.sl (.int .u8)) (s.T.getD 0 .dead), gV (.sl (.int .u8)) (s.T.getD 1 .dead), gV (.int .i64) (s.T.getD 5 .dead) with | some a0, some a1, some a5 => some (a0, a1, a5) | _, _, _ => none
noncomputable def keep4 : List Nat := [0, 1, 5]
noncomputable def body4 : Code := bodyAt (loopsOf (bodyOf Try.f47)) 4
noncomputable def s0 (x4 : Bool) : St := ⟨[.dead, .dead, .dead, .dead, .v .bool x4, .dead, .dead, .dead, .dead, .dead, .dead, .dead, .dead, .dead, .dead, .dead, .dead, .dead, .dead, .dead, .dead, .dead, .dead, .dead, .dead, .dead], []⟩
noncomputable def s1 : St := ⟨[.dead, .dead, .dead, .dead, .dead, .dead, .dead, .dead, .dead, .dead, .dead, .dead, .dead, .dead, .dead, .dead, .dead, .dead, .dead, .dead, .dead, .dead, .dead, .dead, .dead, .dead], []⟩
def val (a b : List Int) : Bool := decide (a = b)
def Q4 : V4 → (Nat → St → Prop) → (St → Prop) → Prop := fun (a, b, i) X R => 0 ≤ i ∧ i ≤ a.length ∧ a.length = b.length ∧ a.length ≤ LB ∧ bif decide (a.drop i.toNat = b.drop i.toNat) then X 0 s1 else R (s0 false)
noncomputable def purs : List (Nat × (List Ty × (List AV → PV))) := []
noncomputable def callF (g : FuncId) : CF := fun _ _ _ => False
noncomputable def L4 : K → Nat → St → Prop := mkL dec4 st4 0 0 [] Q4
noncomputable def loops : List (Nat × (List Nat × (K → Nat → St → Prop))) := [(4, (keep4, L4))]
noncomputable def C : Ctx := { ti := ti, meth := meth, can := can, pur := purOf purs, loops := fun i => seek loops i, gh := fun _ => [], xk := fun i => seek [(0, ([], 0))] i, rk := some ([4], 0) }
noncomputable def Round4 (x0 : (List Int)) (x1 : (List Int)) (x5 : Int) (N : St → Prop) (X : Nat → St → Prop) (R : St → Prop) : Prop :=
  (bif decide (x5 < (↑x0.length : Int)) then (((0 : Int) ≤ x5) ∧ ((x5 < (↑x0.length : Int)) ∧ (((0 : Int) ≤ x5) ∧ ((x5 < (↑x1.length : Int)) ∧ (bif x0.getD x5.toNat (0 : Int) != x1.getD x5.toNat (0 : Int) then R (s0 (false)) else N (st4 (x0, x1, IntKind.i64.wrap (x5 + (1 : Int))))))))) else X 0 (s1))
theorem round4 (x0 : (List Int)) (x1 : (List Int)) (x5 : Int) (N : St → Prop) (X : Nat → St → Prop) (R : St → Prop) : exec C callF body4 ⟨0, [0], fun s' => cond (Nat.ble 0 s'.H.length) (N (scrub keep4 0 s')) False, X, R⟩ (st4 (x0, x1, x5)) = Round4 x0 x1 x5 N X R := by kernel_rfl
noncomputable def Main (a : (List Int)) (b : (List Int)) (k : AV → Prop) : Prop :=
  (bif (↑a.length : Int) != (↑b.length : Int) then k (.v .bool (false)) else (st4 (a, b, (0 : Int)) = st4 (a, b, (0 : Int)) ∧ (((0 : Int) ≤ (0 : Int)) ∧ (((0 : Int) ≤ (↑a.length : Int)) ∧ ((a.length = b.length) ∧ ((a.length ≤ LB) ∧ (bif decide (a = b) then k (.v .bool (true)) else k (.v .bool (false)))))))))
theorem main (a : (List Int)) (b : (List Int)) (k : AV → Prop) : (runFn C callF Try.f47 [.v (.sl (.int .u8)) a, .v (.sl (.int .u8)) b] [] (fun r H => coRes H [.bool] r k)) = Main a b k := by kernel_rfl
theorem loop4 (v : V4) (X : Nat → St → Prop) (R : St → Prop) : Q4 v X R → ∃ m, loopN C callF keep4 0 body4 ⟨0, [], fun _ => False, X, R⟩ m (st4 v) := by
  refine loop_ind (fun v => Q4 v X R) (fun v => v.1.length - v.2.2.toNat) ?_ v
  rintro ⟨a, b, i⟩ ⟨h0, h1, h2, h3, h4⟩ N hN
  rw [round4]
  obtain ⟨j, rfl⟩ : ∃ j : Nat, i = j := ⟨i.toNat, by omega⟩
  dsimp only at hN
  rw [Int.toNat_natCast] at h4
  have h3' : a.length ≤ 1073741824 := h3
  refine bif_d (fun hj => ⟨by omega, hj, by omega, by omega, ?_⟩) (fun hj => ?_)
  · rw [drop_cons (l := a) (by omega) 0, drop_cons (l := b) (by omega) 0] at h4
    rw [Int.toNat_natCast]
    refine bif_ne (fun hne => ?_) (fun he => ?_)
    · rwa [decide_eq_false (fun h => hne (List.cons.inj h).1)] at h4
    · rw [w64n (by omega)]
      refine hN _ ⟨by omega, by omega, h2, h3, ?_⟩ (by dsimp only; omega)
      rw [Int.toNat_natCast]
      by_cases hd : a.drop (j + 1) = b.drop (j + 1)
      · rw [decide_eq_true (by rw [hd, he])] at h4
        rwa [decide_eq_true hd]
      · rw [decide_eq_false (fun h => hd (List.cons.inj h).2)] at h4
        rwa [decide_eq_false hd]
  · rw [List.drop_eq_nil_of_le (by omega), List.drop_eq_nil_of_le (by omega)] at h4
    exact h4
theorem spec (a b : List Int) (k : AV → Prop) (h : AllP [a.length ≤ LB]) (hk : k (.v .bool (val a b))) : Main a b k := by
  unfold Main
  unfold val at hk
  refine bif_ne (fun hne => ?_) (fun he => ⟨rfl, by omega, by omega, by omega, h.1, ?_⟩)
  · rwa [decide_eq_false (fun e => hne (by rw [e]))] at hk
  · by_cases hd : a = b
    · rw [decide_eq_true hd] at hk
      exact bif_d (fun _ => hk) (fun hn => absurd (by rw [hd]) hn)
    · rw [decide_eq_false hd] at hk
      exact bif_d (fun hn => absurd hn hd) (fun _ => hk)
noncomputable def ts : List Ty := [(.sl (.int .u8)), (.sl (.int .u8))]
noncomputable def G : List AV → PV := pg2 (.sl (.int .u8)) (.sl (.int .u8)) (fun a b => [a.length ≤ LB]) (fun a b => .v .bool (val a b))
theorem loopsOK : LoopsOK C callF (bodyOf Try.f47) := loopsOK_seek (tbl := loops) (fun _ => rfl) (by kernel_rfl) (List.forall_mem_cons.2 ⟨mkL_ok loop4, fun _ h => nomatch h⟩)
theorem pursOK : ∀ g ts F, C.pur g = some (ts, F) → SoundP Try.prog g F := purOf_ok (l := purs) (fun _ h => nomatch h)
theorem cfsOK : ∀ g, SoundF Try.prog g (callF g) := fun g => soundF_none g
theorem ok : SoundP Try.prog 47 G := by
  unfold G
  refine soundP_pg2 (soundF_run (C := C) (callF := callF) (tabOK C rfl rfl rfl) cfsOK pursOK Try.func47 (by kernel_rfl) loopsOK) [.bool] fun a b h => ?_
  rw [main]
  exact spec a b _ h rfl
end F47
namespace F22
noncomputable def purs : List (Nat × (List Ty × (List AV → PV))) := [(17, (Go.Proofs.Ytdjdbjcapenjeaa.B.F17.ts, Go.Proofs.Ytdjdbjcapenjeaa.B.F17.G))]
noncomputable def callF (g : FuncId) : CF := fun _ _ _ => False
noncomputable def loops : List (Nat × (List Nat × (K → Nat → St → Prop))) := []
noncomputable def C : Ctx := { ti := ti, meth := meth, can := can, pur := purOf purs, loops := fun i => seek loops i, gh := fun _ => [], rk := some ([4], 0) }
noncomputable def Main (a : D51) (b : D51) (k : AV → Prop) : Prop :=
  (bif a.fst == b.fst then (bif a.snd.fst == b.snd.fst then ((List.length a.snd.snd.fst ≤ LB) ∧ k (.v .bool (F17.val a.snd.snd.fst b.snd.snd.fst))) else k (.v .bool (false))) else k (.v .bool (false)))
theorem main (a : D51) (b : D51) (k : AV → Prop) : (runFn C callF Try.f22 [.v (.pair .bool (.pair (.int .u64) (.pair (.sl (.int .i64)) .unit))) a, .v (.pair .bool (.pair (.int .u64) (.pair (.sl (.int .i64)) .unit))) b] [] (fun r H => coRes H [.bool] r k)) = Main a b k := by kernel_rfl
def val (a : D51) (b : D51) : Bool :=
  (bif a.fst == b.fst then (bif a.snd.fst == b.snd.fst then (F17.val a.snd.snd.fst b.snd.snd.fst) else (false)) else (false))
def Pre (a : D51) (b : D51) : Prop :=
  (bif a.fst == b.fst then (bif a.snd.fst == b.snd.fst then (List.length a.snd.snd.fst ≤ LB) else True) else True)
def valAV (x : Bool) : AV := .v .bool x
theorem spec (a : D51) (b : D51) (k : AV → Prop) (h : AllP [Pre a b]) (hk : k (.v .bool (val a b))) : Main a b k := ((bif_PV (K := fun x => k (valAV x)) (bif_PV (K := fun x => k (valAV x)) (and_t (K := fun x => k (valAV x)) (fun _ h => h)) (fun _ h => h)) (fun _ h => h)) : Pre a b → (fun x => k (valAV x)) (val a b) → Main a b k) h.1 hk
noncomputable def ts : List Ty := [T51, T51]
noncomputable def G : List AV → PV := pg2 T51 T51 (fun a b => [Pre a b]) (fun a b => .v .bool (val a b))
theorem loopsOK : LoopsOK C callF (bodyOf Try.f22) := loopsOK_seek (tbl := loops) (fun _ => rfl) (by kernel_rfl) (fun _ h => nomatch h)
theorem pursOK : ∀ g ts F, C.pur g = some (ts, F) → SoundP Try.prog g F := purOf_ok (l := purs) (List.forall_mem_cons.2 ⟨Go.Proofs.Ytdjdbjcapenjeaa.B.F17.ok, fun _ h => nomatch h⟩)
theorem cfsOK : ∀ g, SoundF Try.prog g (callF g) := fun g => soundF_none g
theorem ok : SoundP Try.prog 22 G := by
  unfold G
  refine soundP_pg2 (soundF_run (C := C) (callF := callF) (tabOK C rfl rfl rfl) cfsOK pursOK Try.func22 (by kernel_rfl) loopsOK) [.bool] fun a b h => ?_
  rw [main]
  exact spec a b _ h rfl
end F22
namespace F46
noncomputable def purs : List (Nat × (List Ty × (List AV → PV))) := [(47, (Go.Proofs.Ytdjdbjcapenjeaa.B.F47.ts, Go.Proofs.Ytdjdbjcapenjeaa.B.F47.G))]
noncomputable def callF (g : FuncId) : CF := fun _ _ _ => False
noncomputable def loops : List (Nat × (List Nat × (K → Nat → St → Prop))) := []
noncomputable def C : Ctx := { ti := ti, meth := meth, can := can, pur := purOf purs, loops := fun i => seek loops i, gh := fun _ => [] }
noncomputable def Main (r : D27) (x : D60) (k : AV → Prop) : Prop :=
  (bif r.fst == (2 : Int) then k (.tup [⟨(.int .i64), ((1 : Int))⟩, ⟨T60, ((true), ((r.snd.snd.snd.fst), ()))⟩]) else (bif r.fst == (3 : Int) then (bif x.fst then k (.tup [⟨(.int .i64), ((1 : Int))⟩, ⟨T60, ((false), (([]), ()))⟩]) else k (.tup [⟨(.int .i64), ((2 : Int))⟩, ⟨T60, ((false), (([]), ()))⟩])) else (bif r.fst == (4 : Int) then (bif x.fst == r.snd.snd.snd.snd.snd.fst then (bif !x.fst then k (.tup [⟨(.int .i64), ((1 : Int))⟩, ⟨T60, ((true), ((r.snd.snd.snd.fst), ()))⟩]) else ((List.length x.snd.fst ≤ LB) ∧ (bif F47.val x.snd.fst r.snd.snd.snd.snd.fst then k (.tup [⟨(.int .i64), ((1 : Int))⟩, ⟨T60, ((true), ((r.snd.snd.snd.fst), ()))⟩]) else k (.tup [⟨(.int .i64), ((3 : Int))⟩, ⟨T60, (x)⟩])))) else k (.tup [⟨(.int .i64), ((3 : Int))⟩, ⟨T60, (x)⟩])) else (bif x.fst then k (.tup [⟨(.int .i64), ((1 : Int))⟩, ⟨T60, (x)⟩]) else k (.tup [⟨(.int .i64), ((2 : Int))⟩, ⟨T60, (x)⟩])))))
theorem main (r : D27) (x : D60) (k : AV → Prop) : (runFn C callF Try.f46 [.v (.pair (.int .u8) (.pair (.int .u64) (.pair (.int .u64) (.pair (.sl (.int .u8)) (.pair (.sl (.int .u8)) (.pair .bool (.pair (.int .u8) .unit))))))) r, .v (.pair .bool (.pair (.sl (.int .u8)) .unit)) x] [] (fun r H => coRes H [(.int .i64), (.pair .bool (.pair (.sl (.int .u8)) .unit))] r k)) = Main r x k := by kernel_rfl
def val (r : D27) (x : D60) : Int × D60 :=
  (bif r.fst == (2 : Int) then (((1 : Int)), ((true), ((r.snd.snd.snd.fst), ()))) else (bif r.fst == (3 : Int) then (bif x.fst then (((1 : Int)), ((false), (([]), ()))) else (((2 : Int)), ((false), (([]), ())))) else (bif r.fst == (4 : Int) then (bif x.fst == r.snd.snd.snd.snd.snd.fst then (bif !x.fst then (((1 : Int)), ((true), ((r.snd.snd.snd.fst), ()))) else (bif F47.val x.snd.fst r.snd.snd.snd.snd.fst then (((1 : Int)), ((true), ((r.snd.snd.snd.fst), ()))) else (((3 : Int)), (x)))) else (((3 : Int)), (x))) else (bif x.fst then (((1 : Int)), (x)) else (((2 : Int)), (x))))))
def Pre (r : D27) (x : D60) : Prop :=
  (bif r.fst == (2 : Int) then True else (bif r.fst == (3 : Int) then True else (bif r.fst == (4 : Int) then (bif x.fst == r.snd.snd.snd.snd.snd.fst then (bif !x.fst then True else (List.length x.snd.fst ≤ LB)) else True) else True)))
def valAV (x : Int × D60) : AV := .tup [⟨(.int .i64), x.1⟩, ⟨T60, x.2⟩]
theorem spec (r : D27) (x : D60) (k : AV → Prop) (h : AllP [Pre r x]) (hk : k (.tup [⟨(.int .i64), (val r x).1⟩, ⟨T60, (val r x).2⟩])) : Main r x k := ((bif_PV (K := fun x => k (valAV x)) (fun _ h => h) (bif_PV (K := fun x => k (valAV x)) (bif_pV (K := fun x => k (valAV x)) (fun _ h => h) (fun _ h => h)) (bif_PV (K := fun x => k (valAV x)) (bif_PV (K := fun x => k (valAV x)) (bif_PV (K := fun x => k (valAV x)) (fun _ h => h) (and_t (K := fun x => k (valAV x)) (bif_pV (K := fun x => k (valAV x)) (fun _ h => h) (fun _ h => h)))) (fun _ h => h)) (bif_pV (K := fun x => k (valAV x)) (fun _ h => h) (fun _ h => h))))) : Pre r x → (fun x => k (valAV x)) (val r x) → Main r x k) h.1 hk
noncomputable def ts : List Ty := [T27, T60]
noncomputable def G : List AV → PV := pg2 T27 T60 (fun r x => [Pre r x]) (fun r x => .tup [⟨(.int .i64), (val r x).1⟩, ⟨T60, (val r x).2⟩])
theorem loopsOK : LoopsOK C callF (bodyOf Try.f46) := loopsOK_seek (tbl := loops) (fun _ => rfl) (by kernel_rfl) (fun _ h => nomatch h)
theorem pursOK : ∀ g ts F, C.pur g = some (ts, F) → SoundP Try.prog g F := purOf_ok (l := purs) (List.forall_mem_cons.2 ⟨Go.Proofs.Ytdjdbjcapenjeaa.B.F47.ok, fun _ h => nomatch h⟩)
theorem cfsOK : ∀ g, SoundF Try.prog g (callF g) := fun g => soundF_none g
theorem ok : SoundP Try.prog 46 G := by
  unfold G
  refine soundP_pg2 (soundF_run (C := C) (callF := callF) (tabOK C rfl rfl rfl) cfsOK pursOK Try.func46 (by kernel_rfl) loopsOK) [(.int .i64), T60] fun r x h => ?_
  rw [main]
  exact spec r x _ h rfl
end F46
namespace F26
noncomputable def purs : List (Nat × (List Ty × (List AV → PV))) := [(45, (Go.Proofs.Ytdjdbjcapenjeaa.A.F45.ts, Go.Proofs.Ytdjdbjcapenjeaa.A.F45.G)), (46, (Go.Proofs.Ytdjdbjcapenjeaa.B.F46.ts, Go.Proofs.Ytdjdbjcapenjeaa.B.F46.G)), (47, (Go.Proofs.Ytdjdbjcapenjeaa.B.F47.ts, Go.Proofs.Ytdjdbjcapenjeaa.B.F47.G))]
noncomputable def callF (g : FuncId) : CF := fun _ _ _ => False
noncomputable def loops : List (Nat × (List Nat × (K → Nat → St → Prop))) := []
noncomputable def C : Ctx := { ti := ti, meth := meth, can := can, pur := purOf purs, loops := fun i => seek loops i, gh := fun _ => [] }
noncomputable def Main (c : D30) (x : D60) (k : AV → Prop) : Prop :=
  ((F46.Pre c.snd.snd.fst x) ∧ (bif !A.F45.val c then k (.tup [⟨.bool, (true)⟩, ⟨T60, ((F46.val c.snd.snd.fst x).snd)⟩]) else (bif c.snd.snd.snd.fst == (4 : Int) then (bif !x.fst then k (.tup [⟨.bool, ((F46.val c.snd.snd.fst x).fst == (1 : Int))⟩, ⟨T60, (x)⟩]) else k (.tup [⟨.bool, (false)⟩, ⟨T60, (x)⟩])) else (bif IntKind.i64.wrap c.snd.snd.snd.fst != (F46.val c.snd.snd.fst x).fst then k (.tup [⟨.bool, (false)⟩, ⟨T60, ((false), (([]), ()))⟩]) else (bif c.snd.snd.fst.fst == (1 : Int) then (bif (F46.val c.snd.snd.fst x).fst == (1 : Int) then ((List.length x.snd.fst ≤ LB) ∧ (bif !F47.val x.snd.fst c.snd.snd.snd.snd.fst then k (.tup [⟨.bool, (false)⟩, ⟨T60, ((false), (([]), ()))⟩]) else k (.tup [⟨.bool, (true)⟩, ⟨T60, ((F46.val c.snd.snd.fst x).snd)⟩]))) else k (.tup [⟨.bool, (true)⟩, ⟨T60, ((F46.val c.snd.snd.fst x).snd)⟩])) else k (.tup [⟨.bool, (true)⟩, ⟨T60, ((F46.val c.snd.snd.fst x).snd)⟩]))))))
theorem main (c : D30) (x : D60) (k : AV → Prop) : (runFn C callF Try.f26 [.v (.pair (.int .u8) (.pair (.int .u64) (.pair (.pair (.int .u8) (.pair (.int .u64) (.pair (.int .u64) (.pair (.sl (.int .u8)) (.pair (.sl (.int .u8)) (.pair .bool (.pair (.int .u8) .unit))))))) (.pair (.int .u8) (.pair (.sl (.int .u8)) (.pair (.int .i64) (.pair (.int .i64) .unit))))))) c, .v (.pair .bool (.pair (.sl (.int .u8)) .unit)) x] [] (fun r H => coRes H [.bool, (.pair .bool (.pair (.sl (.int .u8)) .unit))] r k)) = Main c x k := by kernel_rfl
def val (c : D30) (x : D60) : Bool × D60 :=
  (bif !A.F45.val c then ((true), ((F46.val c.snd.snd.fst x).snd)) else (bif c.snd.snd.snd.fst == (4 : Int) then (bif !x.fst then (((F46.val c.snd.snd.fst x).fst == (1 : Int)), (x)) else ((false), (x))) else (bif IntKind.i64.wrap c.snd.snd.snd.fst != (F46.val c.snd.snd.fst x).fst then ((false), ((false), (([]), ()))) else (bif c.snd.snd.fst.fst == (1 : Int) then (bif (F46.val c.snd.snd.fst x).fst == (1 : Int) then (bif !F47.val x.snd.fst c.snd.snd.snd.snd.fst then ((false), ((false), (([]), ()))) else ((true), ((F46.val c.snd.snd.fst x).snd))) else ((true), ((F46.val c.snd.snd.fst x).snd))) else ((true), ((F46.val c.snd.snd.fst x).snd))))))
def Pre (c : D30) (x : D60) : Prop :=
  ((F46.Pre c.snd.snd.fst x) ∧ (bif !A.F45.val c then True else (bif c.snd.snd.snd.fst == (4 : Int) then True else (bif IntKind.i64.wrap c.snd.snd.snd.fst != (F46.val c.snd.snd.fst x).fst then True else (bif c.snd.snd.fst.fst == (1 : Int) then (bif (F46.val c.snd.snd.fst x).fst == (1 : Int) then (List.length x.snd.fst ≤ LB) else True) else True)))))
def valAV (x : Bool × D60) : AV := .tup [⟨.bool, x.1⟩, ⟨T60, x.2⟩]
theorem spec (c : D30) (x : D60) (k : AV → Prop) (h : AllP [Pre c x]) (hk : k (.tup [⟨.bool, (val c x).1⟩, ⟨T60, (val c x).2⟩])) : Main c x k := ((and_p (K := fun x => k (valAV x)) (bif_PV (K := fun x => k (valAV x)) (fun _ h => h) (bif_PV (K := fun x => k (valAV x)) (bif_pV (K := fun x => k (valAV x)) (fun _ h => h) (fun _ h => h)) (bif_PV (K := fun x => k (valAV x)) (fun _ h => h) (bif_PV (K := fun x => k (valAV x)) (bif_PV (K := fun x => k (valAV x)) (and_t (K := fun x => k (valAV x)) (bif_pV (K := fun x => k (valAV x)) (fun _ h => h) (fun _ h => h))) (fun _ h => h)) (fun _ h => h)))))) : Pre c x → (fun x => k (valAV x)) (val c x) → Main c x k) h.1 hk
noncomputable def ts : List Ty := [T30, T60]
noncomputable def G : List AV → PV := pg2 T30 T60 (fun c x => [Pre c x]) (fun c x => .tup [⟨.bool, (val c x).1⟩, ⟨T60, (val c x).2⟩])
theorem loopsOK : LoopsOK C callF (bodyOf Try.f26) := loopsOK_seek (tbl := loops) (fun _ => rfl) (by kernel_rfl) (fun _ h => nomatch h)
theorem pursOK : ∀ g ts F, C.pur g = some (ts, F) → SoundP Try.prog g F := purOf_ok (l := purs) (List.forall_mem_cons.2 ⟨Go.Proofs.Ytdjdbjcapenjeaa.A.F45.ok, List.forall_mem_cons.2 ⟨Go.Proofs.Ytdjdbjcapenjeaa.B.F46.ok, List.forall_mem_cons.2 ⟨Go.Proofs.Ytdjdbjcapenjeaa.B.F47.ok, fun _ h => nomatch h⟩⟩⟩)
theorem cfsOK : ∀ g, SoundF Try.prog g (callF g) := fun g => soundF_none g
theorem ok : SoundP Try.prog 26 G := by
  unfold G
  refine soundP_pg2 (soundF_run (C := C) (callF := callF) (tabOK C rfl rfl rfl) cfsOK pursOK Try.func26 (by kernel_rfl) loopsOK) [.bool, T60] fun c x h => ?_
  rw [main]
  exact spec c x _ h rfl
end F26
namespace F25
noncomputable def purs : List (Nat × (List Ty × (List AV → PV))) := [(45, (Go.Proofs.Ytdjdbjcapenjeaa.A.F45.ts, Go.Proofs.Ytdjdbjcapenjeaa.A.F45.G))]
noncomputable def callF (g : FuncId) : CF := fun _ _ _ => False
noncomputable def loops : List (Nat × (List Nat × (K → Nat → St → Prop))) := []
noncomputable def C : Ctx := { ti := ti, meth := meth, can := can, pur := purOf purs, loops := fun i => seek loops i, gh := fun _ => [], rk := some ([2], 0) }
noncomputable def Main (c : D30) (k : AV → Prop) : Prop :=
  (bif decide (c.snd.snd.fst.fst < (1 : Int)) then k (.v .bool (false)) else (bif decide (c.snd.snd.fst.fst > (5 : Int)) then k (.v .bool (false)) else (bif decide (c.snd.snd.snd.snd.snd.fst < (0 : Int)) then k (.v .bool (false)) else (bif !A.F45.val c then (bif c.snd.snd.snd.fst == (0 : Int) then k (.v .bool ((↑(List.length c.snd.snd.snd.snd.fst) : Int) == (0 : Int))) else k (.v .bool (false))) else (bif decide (c.snd.snd.snd.snd.snd.snd.fst ≤ c.snd.snd.snd.snd.snd.fst) then k (.v .bool (false)) else (bif decide ((↑(List.length c.snd.snd.snd.snd.fst) : Int) > (0 : Int)) then (bif c.snd.snd.fst.fst == (1 : Int) then (bif !c.snd.snd.snd.fst == (1 : Int) then k (.v .bool (false)) else (bif c.snd.snd.snd.fst == (1 : Int) then k (.v .bool (true)) else (bif c.snd.snd.snd.fst == (2 : Int) then (bif c.snd.snd.fst.fst == (1 : Int) then k (.v .bool (true)) else k (.v .bool (c.snd.snd.fst.fst == (3 : Int)))) else (bif c.snd.snd.snd.fst == (3 : Int) then k (.v .bool (c.snd.snd.fst.fst == (4 : Int))) else (bif c.snd.snd.snd.fst == (4 : Int) then (bif c.snd.snd.fst.fst == (2 : Int) then k (.v .bool (true)) else (bif c.snd.snd.fst.fst == (4 : Int) then k (.v .bool (!c.snd.snd.fst.snd.snd.snd.snd.snd.fst)) else k (.v .bool (false)))) else k (.v .bool (false))))))) else k (.v .bool (false))) else (bif c.snd.snd.snd.fst == (1 : Int) then k (.v .bool (true)) else (bif c.snd.snd.snd.fst == (2 : Int) then (bif c.snd.snd.fst.fst == (1 : Int) then k (.v .bool (true)) else k (.v .bool (c.snd.snd.fst.fst == (3 : Int)))) else (bif c.snd.snd.snd.fst == (3 : Int) then k (.v .bool (c.snd.snd.fst.fst == (4 : Int))) else (bif c.snd.snd.snd.fst == (4 : Int) then (bif c.snd.snd.fst.fst == (2 : Int) then k (.v .bool (true)) else (bif c.snd.snd.fst.fst == (4 : Int) then k (.v .bool (!c.snd.snd.fst.snd.snd.snd.snd.snd.fst)) else k (.v .bool (false)))) else k (.v .bool (false))))))))))))
theorem main (c : D30) (k : AV → Prop) : (runFn C callF Try.f25 [.v (.pair (.int .u8) (.pair (.int .u64) (.pair (.pair (.int .u8) (.pair (.int .u64) (.pair (.int .u64) (.pair (.sl (.int .u8)) (.pair (.sl (.int .u8)) (.pair .bool (.pair (.int .u8) .unit))))))) (.pair (.int .u8) (.pair (.sl (.int .u8)) (.pair (.int .i64) (.pair (.int .i64) .unit))))))) c] [] (fun r H => coRes H [.bool] r k)) = Main c k := by kernel_rfl
def val (c : D30) : Bool :=
  (bif decide (c.snd.snd.fst.fst < (1 : Int)) then (false) else (bif decide (c.snd.snd.fst.fst > (5 : Int)) then (false) else (bif decide (c.snd.snd.snd.snd.snd.fst < (0 : Int)) then (false) else (bif !A.F45.val c then (bif c.snd.snd.snd.fst == (0 : Int) then ((↑(List.length c.snd.snd.snd.snd.fst) : Int) == (0 : Int)) else (false)) else (bif decide (c.snd.snd.snd.snd.snd.snd.fst ≤ c.snd.snd.snd.snd.snd.fst) then (false) else (bif decide ((↑(List.length c.snd.snd.snd.snd.fst) : Int) > (0 : Int)) then (bif c.snd.snd.fst.fst == (1 : Int) then (bif !c.snd.snd.snd.fst == (1 : Int) then (false) else (bif c.snd.snd.snd.fst == (1 : Int) then (true) else (bif c.snd.snd.snd.fst == (2 : Int) then (bif c.snd.snd.fst.fst == (1 : Int) then (true) else (c.snd.snd.fst.fst == (3 : Int))) else (bif c.snd.snd.snd.fst == (3 : Int) then (c.snd.snd.fst.fst == (4 : Int)) else (bif c.snd.snd.snd.fst == (4 : Int) then (bif c.snd.snd.fst.fst == (2 : Int) then (true) else (bif c.snd.snd.fst.fst == (4 : Int) then (!c.snd.snd.fst.snd.snd.snd.snd.snd.fst) else (false))) else (false)))))) else (false)) else (bif c.snd.snd.snd.fst == (1 : Int) then (true) else (bif c.snd.snd.snd.fst == (2 : Int) then (bif c.snd.snd.fst.fst == (1 : Int) then (true) else (c.snd.snd.fst.fst == (3 : Int))) else (bif c.snd.snd.snd.fst == (3 : Int) then (c.snd.snd.fst.fst == (4 : Int)) else (bif c.snd.snd.snd.fst == (4 : Int) then (bif c.snd.snd.fst.fst == (2 : Int) then (true) else (bif c.snd.snd.fst.fst == (4 : Int) then (!c.snd.snd.fst.snd.snd.snd.snd.snd.fst) else (false))) else (false)))))))))))
def valAV (x : Bool) : AV := .v .bool x
theorem spec (c : D30) (k : AV → Prop) (_ : AllP []) (hk : k (.v .bool (val c))) : Main c k := (show (fun x => k (valAV x)) (val c) → Main c k from ((bif_pV (K := fun x => k (valAV x)) (fun _ h => h) (bif_pV (K := fun x => k (valAV x)) (fun _ h => h) (bif_pV (K := fun x => k (valAV x)) (fun _ h => h) (bif_pV (K := fun x => k (valAV x)) (bif_pV (K := fun x => k (valAV x)) (fun _ h => h) (fun _ h => h)) (bif_pV (K := fun x => k (valAV x)) (fun _ h => h) (bif_pV (K := fun x => k (valAV x)) (bif_pV (K := fun x => k (valAV x)) (bif_pV (K := fun x => k (valAV x)) (fun _ h => h) (bif_pV (K := fun x => k (valAV x)) (fun _ h => h) (bif_pV (K := fun x => k (valAV x)) (bif_pV (K := fun x => k (valAV x)) (fun _ h => h) (fun _ h => h)) (bif_pV (K := fun x => k (valAV x)) (fun _ h => h) (bif_pV (K := fun x => k (valAV x)) (bif_pV (K := fun x => k (valAV x)) (fun _ h => h) (bif_pV (K := fun x => k (valAV x)) (fun _ h => h) (fun _ h => h))) (fun _ h => h)))))) (fun _ h => h)) (bif_pV (K := fun x => k (valAV x)) (fun _ h => h) (bif_pV (K := fun x => k (valAV x)) (bif_pV (K := fun x => k (valAV x)) (fun _ h => h) (fun _ h => h)) (bif_pV (K := fun x => k (valAV x)) (fun _ h => h) (bif_pV (K := fun x => k (valAV x)) (bif_pV (K := fun x => k (valAV x)) (fun _ h => h) (bif_pV (K := fun x => k (valAV x)) (fun _ h => h) (fun _ h => h))) (fun _ h => h))))))))))) : True → (fun x => k (valAV x)) (val c) → Main c k) trivial) hk
noncomputable def ts : List Ty := [T30]
noncomputable def G : List AV → PV := pg1 T30 (fun c => []) (fun c => .v .bool (val c))
theorem loopsOK : LoopsOK C callF (bodyOf Try.f25) := loopsOK_seek (tbl := loops) (fun _ => rfl) (by kernel_rfl) (fun _ h => nomatch h)
theorem pursOK : ∀ g ts F, C.pur g = some (ts, F) → SoundP Try.prog g F := purOf_ok (l := purs) (List.forall_mem_cons.2 ⟨Go.Proofs.Ytdjdbjcapenjeaa.A.F45.ok, fun _ h => nomatch h⟩)
theorem cfsOK : ∀ g, SoundF Try.prog g (callF g) := fun g => soundF_none g
theorem ok : SoundP Try.prog 25 G := by
  unfold G
  refine soundP_pg1 (soundF_run (C := C) (callF := callF) (tabOK C rfl rfl rfl) cfsOK pursOK Try.func25 (by kernel_rfl) loopsOK) [.bool] fun c h => ?_
  rw [main]
  exact spec c _ h rfl
end F25
namespace F10
noncomputable def purs : List (Nat × (List Ty × (List AV → PV))) := []
noncomputable def callF (g : FuncId) : CF := fun _ _ _ => False
noncomputable def loops : List (Nat × (List Nat × (K → Nat → St → Prop))) := []
noncomputable def C : Ctx := { ti := ti, meth := meth, can := can, pur := purOf purs, loops := fun i => seek loops i, gh := fun _ => [] }
noncomputable def Main (b : (List Int)) (k : AV → Prop) : Prop :=
  ((b.length ≤ (70368744177664 : Nat)) ∧ (((0 : Nat) + b.length ≤ b.length) ∧ k (.v (.sl (.int .u8)) (List.take b.length b))))
theorem main (b : (List Int)) (k : AV → Prop) : (runFn C callF Try.f10 [.v (.sl (.int .u8)) b] [] (fun r H => coRes H [(.sl (.int .u8))] r k)) = Main b k := by kernel_rfl
theorem spec (b : List Int) (k : AV → Prop) (h : AllP [b.length ≤ LB]) (hk : k (.v (.sl (.int .u8)) b)) : Main b k :=
  ⟨Nat.le_trans h.1 (by decide), by omega, by simpa using hk⟩
noncomputable def ts : List Ty := [(.sl (.int .u8))]
noncomputable def G : List AV → PV := pg1 (.sl (.int .u8)) (fun b => [b.length ≤ LB]) (fun b => .v (.sl (.int .u8)) b)
theorem loopsOK : LoopsOK C callF (bodyOf Try.f10) := loopsOK_seek (tbl := loops) (fun _ => rfl) (by kernel_rfl) (fun _ h => nomatch h)
theorem pursOK : ∀ g ts F, C.pur g = some (ts, F) → SoundP Try.prog g F := purOf_ok (l := purs) (fun _ h => nomatch h)
theorem cfsOK : ∀ g, SoundF Try.prog g (callF g) := fun g => soundF_none g
theorem ok : SoundP Try.prog 10 G := by
  unfold G
  refine soundP_pg1 (soundF_run (C := C) (callF := callF) (tabOK C rfl rfl rfl) cfsOK pursOK Try.func10 (by kernel_rfl) loopsOK) [(.sl (.int .u8))] fun b h => ?_
  rw [main]
  exact spec b _ h rfl
end F10

end Go.Proofs.Ytdjdbjcapenjeaa.B
