/- the law HistoryChecks -/
import Derived.Test.YtmemeaaccgmeaaaGreatDxTab
import Derived.Test.YtmemeaaccgmeaaaGreatDx3
import Derived.Test.YtmemeaaccgmeaaaGreatDxTy
import Derived.Test.YtmemeaaccgmeaaaGreatA
import Derived.Test.YtmemeaaccgmeaaaGreatC
import Derived.Test.YtmemeaaccgmeaaaGreatPB
set_option linter.unusedVariables false
set_option maxRecDepth 100000
open Go Go.Proofs Go.Proofs.YtmemeaaccgmeaaaGreat.Dx Go.Proofs.YtmemeaaccgmeaaaGreat.Dx.TYtmemeaaccgmeaaaGreat
namespace Go.Proofs.YtmemeaaccgmeaaaGreat.L3
open W A HP PB
theorem pre72 (r : D52) (q : Int) : B.F72.Pre r q := by
  unfold B.F72.Pre
  by_cases h1 : r.1 ≥ 1
  · by_cases h5 : r.1 ≤ 5
    · rw [decide_eq_true h1, decide_eq_true h5]
      exact ⟨show r.1 ≠ 9 by omega, show r.1 ≠ 12 by omega⟩
    · rw [decide_eq_false h5]; exact bif_all trivial trivial
  · rw [decide_eq_false h1]; trivial
theorem pre45 (c : Cl) : B.F45.Pre c := by
  unfold B.F45.Pre
  have := pre72 c.2.2.1 c.2.1
  repeat (first | exact trivial | exact this | refine ⟨this, ?_⟩ | refine bif_all ?_ ?_)
theorem pre76 {kd st : Int} (va : List Int) (h : 0 ≤ st ∧ st ≤ 255) : B.F76.Pre kd st va := by
  have hw : 0 ≤ IntKind.u8.wrap kd ∧ IntKind.u8.wrap kd ≤ 255 := by
    show 0 ≤ kd % 256 ∧ kd % 256 ≤ 255
    omega
  unfold B.F76.Pre
  repeat (first | exact trivial | exact ⟨hw, h⟩ | exact hw | exact h | refine bif_all ?_ ?_ | refine ⟨?_, ?_⟩)
theorem pre46 (c : Cl) (g : RG c) : B.F46.Pre c := by
  have h75 : B.F75.Pre c.2.2.1 c.2.1 := by
    unfold B.F75.Pre
    repeat (first | exact trivial | exact g.k | exact g.h | exact fun _ => ⟨rfl, rfl⟩ | refine ⟨fun _ => ⟨rfl, rfl⟩, ?_⟩ | refine ⟨g.k, ?_⟩ | refine bif_all ?_ ?_)
  unfold B.F46.Pre
  have h76 := pre76 (kd := IntKind.i64.wrap c.2.2.1.1) c.2.2.2.2.1 g.s
  repeat (first | exact trivial | exact h76 | exact h75 | refine ⟨h75, ?_⟩ | refine bif_all ?_ ?_)
theorem runQ_congr (cs : List Cl) (hg : ∀ c ∈ cs, RG c) : ∀ l : List Nat, (∀ i ∈ l, i < cs.length) → runQ possible cs l = runQ Possible cs l
  | [], _ => rfl
  | i :: r, h => by
    have hi := h i (List.mem_cons_self ..)
    have e : stopD possible cs i = stopD Possible cs i := by
      unfold stopD
      rw [poss_eq _ (hg _ (getD_mem hi c0))]
    rw [runQ, runQ, e, runQ_congr cs hg r fun j hj => h j (List.mem_cons_of_mem _ hj)]
namespace F3
noncomputable def purs : List (Nat × (List Ty × (List AV → PV))) := [(11, (Go.Proofs.YtmemeaaccgmeaaaGreat.A.F11.ts, Go.Proofs.YtmemeaaccgmeaaaGreat.A.F11.G)), (12, (Go.Proofs.YtmemeaaccgmeaaaGreat.C.F12.ts, Go.Proofs.YtmemeaaccgmeaaaGreat.C.F12.G)), (13, (Go.Proofs.YtmemeaaccgmeaaaGreat.C.F13.ts, Go.Proofs.YtmemeaaccgmeaaaGreat.C.F13.G)), (14, (Go.Proofs.YtmemeaaccgmeaaaGreat.A.F14.ts, Go.Proofs.YtmemeaaccgmeaaaGreat.A.F14.G)), (15, (Go.Proofs.YtmemeaaccgmeaaaGreat.A.F15.ts, Go.Proofs.YtmemeaaccgmeaaaGreat.A.F15.G))]
noncomputable def callF (g : FuncId) : CF := fun _ _ _ => False
noncomputable def loops : List (Nat × (List Nat × (K → Nat → St → Prop))) := []
noncomputable def C : Ctx := { ti := ti, meth := meth, can := can, pur := purOf purs, loops := fun i => seek loops i, gh := fun _ => [], rk := some ([2], 0) }
noncomputable def Main (calls : (List D74)) (k : AV → Prop) : Prop :=
  ((calls.length ≤ LB) ∧ ((∀ (c : T74.D), c ∈ calls → F11.LC c) ∧ ((calls.length ≤ LB) ∧ ((∀ (c : T74.D), c ∈ calls → B.F45.Pre c) ∧ ((calls.length ≤ LB) ∧ ((∀ (c : T74.D), c ∈ calls → B.F46.Pre c) ∧ ((calls = calls) ∧ ((calls.length ≤ LB) ∧ (bif (runP possible calls (0 : Int) (-1 : Int) [] (List.replicate (16 : Nat) c0)).fst == (runQ Possible calls (List.range' (0 : Nat) calls.length)).fst then (bif F15.val (runP possible calls (0 : Int) (-1 : Int) [] (List.replicate (16 : Nat) c0)).snd == (runQ Possible calls (List.range' (0 : Nat) calls.length)).snd then k (.v .bool (true)) else k (.v .bool (false))) else k (.v .bool (false)))))))))))
theorem main (calls : (List D74)) (k : AV → Prop) : (runFn C callF Tryz.f3 [.v (.sl (.pair (.int .u8) (.pair (.int .u64) (.pair (.pair (.int .u8) (.pair (.int .u64) (.pair (.int .u64) (.pair (.sl (.int .u8)) (.pair (.sl (.int .u8)) (.pair .bool (.pair (.int .u8) .unit))))))) (.pair (.int .u8) (.pair (.sl (.int .u8)) (.pair (.int .i64) (.pair (.int .i64) .unit)))))))) calls] [] (fun r H => coRes H [.bool] r k)) = Main calls k := by kernel_rfl
theorem spec (cs : List Cl) (k : AV → Prop) (h : AllP [cs.length ≤ LB, ∀ c ∈ cs, F11.LC c, ∀ c ∈ cs, RG c]) (hk : k (.v .bool true)) : Main cs k := by
  obtain ⟨h1, h2, h3, _⟩ := h
  have e : runP possible cs 0 (-1) [] (List.replicate 16 c0) = runQ Possible cs (List.range' 0 cs.length) := by
    rw [run_all (fun i _ hp => fit _ hp) h1]
    exact runQ_congr cs h3 _ fun i hi => by rw [List.mem_range'_1] at hi; omega
  refine ⟨h1, h2, h1, fun c _ => pre45 c, h1, fun c hc => pre46 c (h3 c hc), rfl, h1, ?_⟩
  rw [e]
  exact bif_t (beq_self_eq_true _) (bif_t (by unfold A.F15.val; exact beq_self_eq_true _) hk)
noncomputable def ts : List Ty := [(.sl T74)]
noncomputable def G : List AV → PV := pg1 (.sl T74) (fun calls => [calls.length ≤ LB, ∀ c ∈ calls, A.F11.LC c, ∀ c ∈ calls, RG c]) (fun calls => .v .bool true)
theorem loopsOK : LoopsOK C callF (bodyOf Tryz.f3) := loopsOK_seek (tbl := loops) (fun _ => rfl) (by kernel_rfl) (fun _ h => nomatch h)
theorem pursOK : ∀ g ts F, C.pur g = some (ts, F) → SoundP Tryz.prog g F := purOf_ok (l := purs) (List.forall_mem_cons.2 ⟨Go.Proofs.YtmemeaaccgmeaaaGreat.A.F11.ok, List.forall_mem_cons.2 ⟨Go.Proofs.YtmemeaaccgmeaaaGreat.C.F12.ok, List.forall_mem_cons.2 ⟨Go.Proofs.YtmemeaaccgmeaaaGreat.C.F13.ok, List.forall_mem_cons.2 ⟨Go.Proofs.YtmemeaaccgmeaaaGreat.A.F14.ok, List.forall_mem_cons.2 ⟨Go.Proofs.YtmemeaaccgmeaaaGreat.A.F15.ok, fun _ h => nomatch h⟩⟩⟩⟩⟩)
theorem cfsOK : ∀ g, SoundF Tryz.prog g (callF g) := fun g => soundF_none g
theorem ok : SoundP Tryz.prog 3 G := by
  unfold G
  refine soundP_pg1 (soundF_run (C := C) (callF := callF) (tabOK C rfl rfl rfl) cfsOK pursOK Tryz.func3 (by kernel_rfl) loopsOK) [.bool] fun calls h => ?_
  rw [main]
  exact spec calls _ h rfl
end F3

end Go.Proofs.YtmemeaaccgmeaaaGreat.L3
