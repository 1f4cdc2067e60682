/- the law LinearKeys -/
import Derived.Test.YtdjdbjcapenjeaaDxTab
import Derived.Test.YtdjdbjcapenjeaaDx3
import Derived.Test.YtdjdbjcapenjeaaDxTy
import Derived.Test.YtdjdbjcapenjeaaKH
import Derived.Test.YtdjdbjcapenjeaaKP6
import Derived.Test.YtdjdbjcapenjeaaB
import Derived.Test.YtdjdbjcapenjeaaC
import Derived.Test.YtdjdbjcapenjeaaA
import Derived.Test.YtdjdbjcapenjeaaKD
set_option linter.unusedVariables false
set_option maxRecDepth 100000
open Go Go.Proofs Go.Proofs.Ytdjdbjcapenjeaa.Dx Go.Proofs.Ytdjdbjcapenjeaa.Dx.TYtdjdbjcapenjeaa
namespace Go.Proofs.Ytdjdbjcapenjeaa.KI
namespace F22
noncomputable def purs : List (Nat × (List Ty × (List AV → PV))) := [(17, (Go.Proofs.Ytdjdbjcapenjeaa.B.F17.ts, Go.Proofs.Ytdjdbjcapenjeaa.B.F17.G))]
noncomputable def callF (g : FuncId) : CF := fun _ _ _ => False
noncomputable def loops : List (Nat × (List Nat × (K → Nat → St → Prop))) := []
noncomputable def C : Ctx := { ti := ti, meth := meth, can := can, pur := purOf purs, loops := fun i => seek loops i, gh := fun _ => [], rk := some ([4], 0) }
noncomputable def Main (a : D51) (b : D51) (k : AV → Prop) : Prop :=
  (bif a.fst == b.fst then (bif a.snd.fst == b.snd.fst then ((List.length a.snd.snd.fst ≤ LB) ∧ k (.v .bool (B.F17.val a.snd.snd.fst b.snd.snd.fst))) else k (.v .bool (false))) else k (.v .bool (false)))
theorem main (a : D51) (b : D51) (k : AV → Prop) : (runFn C callF Try.f22 [.v (.pair .bool (.pair (.int .u64) (.pair (.sl (.int .i64)) .unit))) a, .v (.pair .bool (.pair (.int .u64) (.pair (.sl (.int .i64)) .unit))) b] [] (fun r H => coRes H [.bool] r k)) = Main a b k := by kernel_rfl
def val (a : D51) (b : D51) : Bool :=
  (bif a.fst == b.fst then (bif a.snd.fst == b.snd.fst then (B.F17.val a.snd.snd.fst b.snd.snd.fst) else (false)) else (false))
def Pre (a : D51) (b : D51) : Prop :=
  (bif a.fst == b.fst then (bif a.snd.fst == b.snd.fst then (List.length a.snd.snd.fst ≤ LB) else True) else True)
def valAV (x : Bool) : AV := .v .bool x
theorem spec (a : D51) (b : D51) (k : AV → Prop) (h : AllP [Pre a b]) (hk : k (.v .bool (val a b))) : Main a b k := ((bif_PV (K := fun x => k (valAV x)) (bif_PV (K := fun x => k (valAV x)) (and_t (K := fun x => k (valAV x)) (fun _ h => h)) (fun _ h => h)) (fun _ h => h)) : Pre a b → (fun x => k (valAV x)) (val a b) → Main a b k) h.1 hk
noncomputable def ts : List Ty := [T51, T51]
noncomputable def G : List AV → PV := pg2 T51 T51 (fun a b => [Pre a b]) (fun a b => .v .bool (val a b))
theorem loopsOK : LoopsOK C callF (bodyOf Try.f22) := loopsOK_seek (tbl := loops) (fun _ => rfl) (by kernel_rfl) (fun _ h => nomatch h)
theorem pursOK : ∀ g ts F, C.pur g = some (ts, F) → SoundP Try.prog g F := purOf_ok (l := purs) (List.forall_mem_cons.2 ⟨Go.Proofs.Ytdjdbjcapenjeaa.B.F17.ok, fun _ h => nomatch h⟩)
theorem cfsOK : ∀ g, SoundF Try.prog g (callF g) := fun g => soundF_none g
theorem ok : SoundP Try.prog 22 G := by
  unfold G
  refine soundP_pg2 (soundF_run (C := C) (callF := callF) (tabOK C rfl rfl rfl) cfsOK pursOK Try.func22 (by kernel_rfl) loopsOK) [.bool] fun a b h => ?_
  rw [main]
  exact spec a b _ h rfl
end F22
namespace F6
noncomputable def purs : List (Nat × (List Ty × (List AV → PV))) := [(9, (Go.Proofs.Ytdjdbjcapenjeaa.C.F9.ts, Go.Proofs.Ytdjdbjcapenjeaa.C.F9.G)), (13, (Go.Proofs.Ytdjdbjcapenjeaa.C.F13.ts, Go.Proofs.Ytdjdbjcapenjeaa.C.F13.G)), (16, (Go.Proofs.Ytdjdbjcapenjeaa.A.F16.ts, Go.Proofs.Ytdjdbjcapenjeaa.A.F16.G)), (20, (Go.Proofs.Ytdjdbjcapenjeaa.KD.F20.ts, Go.Proofs.Ytdjdbjcapenjeaa.KD.F20.G)), (21, (Go.Proofs.Ytdjdbjcapenjeaa.KH.F21.ts, Go.Proofs.Ytdjdbjcapenjeaa.KH.F21.G)), (22, (Go.Proofs.Ytdjdbjcapenjeaa.KI.F22.ts, Go.Proofs.Ytdjdbjcapenjeaa.KI.F22.G))]
noncomputable def callF (g : FuncId) : CF := fun _ _ _ => False
noncomputable def loops : List (Nat × (List Nat × (K → Nat → St → Prop))) := []
noncomputable def C : Ctx := { ti := ti, meth := meth, can := can, pur := purOf purs, loops := fun i => seek loops i, gh := fun _ => [], rk := some ([2], 0) }
noncomputable def Main (calls : (List D30)) (k : AV → Prop) : Prop :=
  ((calls.length ≤ LB) ∧ ((∀ (c : T30.D), c ∈ calls → C.F9.LC c) ∧ ((KD.F20.Pre calls) ∧ ((KH.F21.Pre calls) ∧ (bif A.F16.val (KD.F20.val calls).snd == (KH.F21.val calls).snd then ((F22.Pre (KD.F20.val calls).fst (KH.F21.val calls).fst) ∧ (bif F22.val (KD.F20.val calls).fst (KH.F21.val calls).fst then ((calls = calls) ∧ ((calls.length ≤ LB) ∧ ((∀ (c : T30.D), c ∈ calls → C.F9.LC c) ∧ k (.v .bool (true))))) else k (.v .bool (false)))) else k (.v .bool (false)))))))
theorem main (calls : (List D30)) (k : AV → Prop) : (runFn C callF Try.f6 [.v (.sl (.pair (.int .u8) (.pair (.int .u64) (.pair (.pair (.int .u8) (.pair (.int .u64) (.pair (.int .u64) (.pair (.sl (.int .u8)) (.pair (.sl (.int .u8)) (.pair .bool (.pair (.int .u8) .unit))))))) (.pair (.int .u8) (.pair (.sl (.int .u8)) (.pair (.int .i64) (.pair (.int .i64) .unit)))))))) calls] [] (fun r H => coRes H [.bool] r k)) = Main calls k := by kernel_rfl
def val (calls : (List D30)) : Bool :=
  (bif A.F16.val (KD.F20.val calls).snd == (KH.F21.val calls).snd then (bif F22.val (KD.F20.val calls).fst (KH.F21.val calls).fst then (true) else (false)) else (false))
def Pre (calls : (List D30)) : Prop :=
  ((calls.length ≤ LB) ∧ ((∀ (c : T30.D), c ∈ calls → C.F9.LC c) ∧ ((KD.F20.Pre calls) ∧ ((KH.F21.Pre calls) ∧ (bif A.F16.val (KD.F20.val calls).snd == (KH.F21.val calls).snd then ((F22.Pre (KD.F20.val calls).fst (KH.F21.val calls).fst) ∧ (bif F22.val (KD.F20.val calls).fst (KH.F21.val calls).fst then ((calls = calls) ∧ ((calls.length ≤ LB) ∧ (∀ (c : T30.D), c ∈ calls → C.F9.LC c))) else True)) else True)))))
def valAV (x : Bool) : AV := .v .bool x
theorem specP (calls : (List D30)) (k : AV → Prop) (h : Pre calls) (hk : k (.v .bool (val calls))) : Main calls k := ((and_p (K := fun x => k (valAV x)) (and_p (K := fun x => k (valAV x)) (and_p (K := fun x => k (valAV x)) (and_p (K := fun x => k (valAV x)) (bif_PV (K := fun x => k (valAV x)) (and_p (K := fun x => k (valAV x)) (bif_PV (K := fun x => k (valAV x)) (and_p (K := fun x => k (valAV x)) (and_p (K := fun x => k (valAV x)) (and_t (K := fun x => k (valAV x)) (fun _ h => h)))) (fun _ h => h))) (fun _ h => h)))))) : Pre calls → (fun x => k (valAV x)) (val calls) → Main calls k) h hk
theorem F22_self (v : D51) : F22.val v v = true := by
  unfold F22.val
  rw [beq_self_eq_true, beq_self_eq_true, cond_true, cond_true]
  exact decide_eq_true rfl
theorem spec (calls : List D30) (k : AV → Prop) (h : AllP [calls.length ≤ LB, ∀ c ∈ calls, C.F9.LC c, ∀ c ∈ calls, PObeys.CB c]) (hk : k (.v .bool true)) : Main calls k := by
  obtain ⟨hl, h1, h2, _⟩ := h
  obtain ⟨k1, k2, k3, k4⟩ := KP6.key_eq calls hl h1 h2
  have e1 : (A.F16.val (KD.F20.val calls).2 == (KH.F21.val calls).2) = true := by rw [k3]; exact beq_self_eq_true (KH.F21.val calls).2
  have e2 : F22.val (KD.F20.val calls).1 (KH.F21.val calls).1 = true := by rw [k3]; exact F22_self _
  have hv : val calls = true := by unfold val; rw [e1, e2]; rfl
  refine specP calls k ?_ (by rw [hv]; exact hk)
  unfold Pre
  rw [e1, cond_true, e2, cond_true]
  refine ⟨hl, h1, k1, k2, ?_, rfl, hl, h1⟩
  unfold F22.Pre
  exact bif_i (fun _ => bif_i (fun _ => k4) (fun _ => trivial)) (fun _ => trivial)
noncomputable def ts : List Ty := [(.sl T30)]
noncomputable def G : List AV → PV := pg1 (.sl T30) (fun calls => [calls.length ≤ LB, ∀ c ∈ calls, C.F9.LC c, ∀ c ∈ calls, PObeys.CB c]) (fun calls => .v .bool true)
theorem loopsOK : LoopsOK C callF (bodyOf Try.f6) := loopsOK_seek (tbl := loops) (fun _ => rfl) (by kernel_rfl) (fun _ h => nomatch h)
theorem pursOK : ∀ g ts F, C.pur g = some (ts, F) → SoundP Try.prog g F := purOf_ok (l := purs) (List.forall_mem_cons.2 ⟨Go.Proofs.Ytdjdbjcapenjeaa.C.F9.ok, List.forall_mem_cons.2 ⟨Go.Proofs.Ytdjdbjcapenjeaa.C.F13.ok, List.forall_mem_cons.2 ⟨Go.Proofs.Ytdjdbjcapenjeaa.A.F16.ok, List.forall_mem_cons.2 ⟨Go.Proofs.Ytdjdbjcapenjeaa.KD.F20.ok, List.forall_mem_cons.2 ⟨Go.Proofs.Ytdjdbjcapenjeaa.KH.F21.ok, List.forall_mem_cons.2 ⟨Go.Proofs.Ytdjdbjcapenjeaa.KI.F22.ok, fun _ h => nomatch h⟩⟩⟩⟩⟩⟩)
theorem cfsOK : ∀ g, SoundF Try.prog g (callF g) := fun g => soundF_none g
theorem ok : SoundP Try.prog 6 G := by
  unfold G
  refine soundP_pg1 (soundF_run (C := C) (callF := callF) (tabOK C rfl rfl rfl) cfsOK pursOK Try.func6 (by kernel_rfl) loopsOK) [.bool] fun calls h => ?_
  rw [main]
  exact spec calls _ h rfl
end F6

end Go.Proofs.Ytdjdbjcapenjeaa.KI
