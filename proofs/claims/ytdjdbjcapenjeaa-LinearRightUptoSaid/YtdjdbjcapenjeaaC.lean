/- lists of calls -/
import Derived.Test.YtdjdbjcapenjeaaDxTab
import Derived.Test.YtdjdbjcapenjeaaDx3
import Derived.Test.YtdjdbjcapenjeaaDxTy
import Derived.Test.YtdjdbjcapenjeaaA
import Derived.Test.YtdjdbjcapenjeaaB
set_option linter.unusedVariables false
set_option maxRecDepth 100000
open Go Go.Proofs Go.Proofs.Ytdjdbjcapenjeaa.Dx Go.Proofs.Ytdjdbjcapenjeaa.Dx.TYtdjdbjcapenjeaa
namespace Go.Proofs.Ytdjdbjcapenjeaa.C
namespace F59
abbrev V2 := (List Int) × Int × Int × Int
noncomputable def st2 (v : V2) : St := ⟨[.v (.sl (.int .u8)) (v.1), .v (.int .u8) (v.2.1), .dead, .dead, .dead, .dead, .dead, .v (.int .i64) (v.2.2.1), .v (.int .i64) (v.2.2.2), .dead, .dead, .dead, .dead, .dead, .dead, .dead, .dead, .dead, .dead], []⟩
noncomputable def dec2 (s : St) : Option V2 := match gV (.sl (.int .u8)) (s.T.getD 0 .dead), gV (.int .u8) (s.T.getD 1 .dead), gV (.int .i64) (s.T.getD 7 .dead), gV (.int .i64) (s.T.getD 8 .dead) with | some a0, some a1, some a7, some a8 => some (a0, a1, a7, a8) | _, _, _, _ => none
noncomputable def keep2 : List Nat := [0, 1, 7, 8]
noncomputable def body2 : Code := bodyAt (loopsOf (bodyOf Try.f59)) 2
noncomputable def s0 (x4 : Int) : St := ⟨[.dead, .dead, .dead, .dead, .v (.int .i64) x4, .dead, .dead, .dead, .dead, .dead, .dead, .dead, .dead, .dead, .dead, .dead, .dead, .dead, .dead], []⟩
noncomputable def s1 : St := ⟨[.dead, .dead, .dead, .dead, .dead, .dead, .dead, .dead, .dead, .dead, .dead, .dead, .dead, .dead, .dead, .dead, .dead, .dead, .dead], []⟩
/-- The first place of a value, or -1. -/
def ix (v : Int) : List Int → Int → Int
  | [], _ => -1
  | x :: r, i => bif v == x then i else ix v r (i + 1)
def Q2 : V2 → (Nat → St → Prop) → (St → Prop) → Prop := fun (s, v, n, i) X R => 0 ≤ i ∧ i ≤ n ∧ n = s.length ∧ s.length ≤ LB ∧ bif ix v (s.drop i.toNat) i == -1 then X 0 s1 else R (s0 (ix v (s.drop i.toNat) i))
noncomputable def purs : List (Nat × (List Ty × (List AV → PV))) := []
noncomputable def callF (g : FuncId) : CF := fun _ _ _ => False
noncomputable def L2 : K → Nat → St → Prop := mkL dec2 st2 0 0 [] Q2
noncomputable def loops : List (Nat × (List Nat × (K → Nat → St → Prop))) := [(2, (keep2, L2))]
noncomputable def C : Ctx := { ti := ti, meth := meth, can := can, pur := purOf purs, loops := fun i => seek loops i, gh := fun _ => [], xk := fun i => seek [(0, ([], 0))] i, rk := some ([4], 0) }
noncomputable def Round2 (x0 : (List Int)) (x1 : Int) (x7 : Int) (x8 : Int) (N : St → Prop) (X : Nat → St → Prop) (R : St → Prop) : Prop :=
  (bif decide (x8 < x7) then (((0 : Int) ≤ x8) ∧ ((x8 < (↑x0.length : Int)) ∧ (bif x1 == x0.getD x8.toNat (0 : Int) then R (s0 (x8)) else N (st2 (x0, x1, x7, IntKind.i64.wrap (x8 + (1 : Int))))))) else X 0 (s1))
theorem round2 (x0 : (List Int)) (x1 : Int) (x7 : Int) (x8 : Int) (N : St → Prop) (X : Nat → St → Prop) (R : St → Prop) : exec C callF body2 ⟨0, [0], fun s' => cond (Nat.ble 0 s'.H.length) (N (scrub keep2 0 s')) False, X, R⟩ (st2 (x0, x1, x7, x8)) = Round2 x0 x1 x7 x8 N X R := by kernel_rfl
noncomputable def Main (s : (List Int)) (v : Int) (k : AV → Prop) : Prop :=
  (st2 (s, v, (↑s.length : Int), (0 : Int)) = st2 (s, v, (↑s.length : Int), (0 : Int)) ∧ (((0 : Int) ≤ (0 : Int)) ∧ (((0 : Int) ≤ (↑s.length : Int)) ∧ (((↑s.length : Int) = (↑s.length : Int)) ∧ ((s.length ≤ LB) ∧ (bif ix v s (0 : Int) == (-1 : Int) then k (.v (.int .i64) ((-1 : Int))) else k (.v (.int .i64) (ix v s (0 : Int)))))))))
theorem main (s : (List Int)) (v : Int) (k : AV → Prop) : (runFn C callF Try.f59 [.v (.sl (.int .u8)) s, .v (.int .u8) v] [] (fun r H => coRes H [(.int .i64)] r k)) = Main s v k := by kernel_rfl
theorem loop2 (v : V2) (X : Nat → St → Prop) (R : St → Prop) : Q2 v X R → ∃ m, loopN C callF keep2 0 body2 ⟨0, [], fun _ => False, X, R⟩ m (st2 v) := by
  refine loop_ind (fun v => Q2 v X R) (fun v => v.1.length - v.2.2.2.toNat) ?_ v
  rintro ⟨s, v, n, i⟩ ⟨h0, h1, h2, h3, h4⟩ N hN
  rw [round2]
  obtain ⟨j, rfl⟩ : ∃ j : Nat, i = j := ⟨i.toNat, by omega⟩
  dsimp only at hN
  rw [Int.toNat_natCast] at h4
  have h3' : s.length ≤ 1073741824 := h3
  subst h2
  refine bif_d (fun hj => ⟨by omega, hj, ?_⟩) (fun hj => ?_)
  · rw [drop_cons (l := s) (by omega) 0] at h4
    rw [Int.toNat_natCast]
    simp only [ix] at h4
    refine bif_eq (fun he => ?_) (fun hne => ?_)
    · have e : (v == s.getD j 0) = true := by simpa using he
      rw [e] at h4
      have : ((bif true then (j : Int) else ix v (s.drop (j + 1)) (j + 1)) == -1) = false := by simp
      rw [this] at h4
      exact h4
    · have e : (v == s.getD j 0) = false := by simpa using hne
      rw [e] at h4
      rw [w64n (by omega)]
      refine hN _ ⟨by omega, by omega, rfl, h3, ?_⟩ (by dsimp only; omega)
      rw [Int.toNat_natCast, Int.natCast_add]
      exact h4
  · rw [List.drop_eq_nil_of_le (by omega)] at h4
    exact h4
theorem spec (s : List Int) (v : Int) (k : AV → Prop) (h : AllP [s.length ≤ LB]) (hk : k (.v (.int .i64) (ix v s 0))) : Main s v k := by
  refine ⟨rfl, by omega, by omega, rfl, h.1, ?_⟩
  show bif ix v s 0 == -1 then k _ else k _
  cases e : ix v s 0 == -1 with
  | true => rw [beq_iff_eq] at e; rw [e] at hk; exact hk
  | false => exact hk
noncomputable def ts : List Ty := [(.sl (.int .u8)), (.int .u8)]
noncomputable def G : List AV → PV := pg2 (.sl (.int .u8)) (.int .u8) (fun s v => [s.length ≤ LB]) (fun s v => .v (.int .i64) (ix v s 0))
theorem loopsOK : LoopsOK C callF (bodyOf Try.f59) := loopsOK_seek (tbl := loops) (fun _ => rfl) (by kernel_rfl) (List.forall_mem_cons.2 ⟨mkL_ok loop2, fun _ h => nomatch h⟩)
theorem pursOK : ∀ g ts F, C.pur g = some (ts, F) → SoundP Try.prog g F := purOf_ok (l := purs) (fun _ h => nomatch h)
theorem cfsOK : ∀ g, SoundF Try.prog g (callF g) := fun g => soundF_none g
theorem ok : SoundP Try.prog 59 G := by
  unfold G
  refine soundP_pg2 (soundF_run (C := C) (callF := callF) (tabOK C rfl rfl rfl) cfsOK pursOK Try.func59 (by kernel_rfl) loopsOK) [(.int .i64)] fun s v h => ?_
  rw [main]
  exact spec s v _ h rfl
end F59
namespace F48
noncomputable def purs : List (Nat × (List Ty × (List AV → PV))) := [(59, (Go.Proofs.Ytdjdbjcapenjeaa.C.F59.ts, Go.Proofs.Ytdjdbjcapenjeaa.C.F59.G))]
noncomputable def callF (g : FuncId) : CF := fun _ _ _ => False
noncomputable def loops : List (Nat × (List Nat × (K → Nat → St → Prop))) := []
noncomputable def C : Ctx := { ti := ti, meth := meth, can := can, pur := purOf purs, loops := fun i => seek loops i, gh := fun _ => [], rk := some ([4], 0) }
noncomputable def Main (s : (List Int)) (v : Int) (k : AV → Prop) : Prop :=
  ((s.length ≤ LB) ∧ k (.v .bool (decide (F59.ix v s (0 : Int) ≥ (0 : Int)))))
theorem main (s : (List Int)) (v : Int) (k : AV → Prop) : (runFn C callF Try.f48 [.v (.sl (.int .u8)) s, .v (.int .u8) v] [] (fun r H => coRes H [.bool] r k)) = Main s v k := by kernel_rfl
def val (s : (List Int)) (v : Int) : Bool :=
  (decide (F59.ix v s (0 : Int) ≥ (0 : Int)))
def Pre (s : (List Int)) (v : Int) : Prop :=
  (s.length ≤ LB)
def valAV (x : Bool) : AV := .v .bool x
theorem spec (s : (List Int)) (v : Int) (k : AV → Prop) (h : AllP [Pre s v]) (hk : k (.v .bool (val s v))) : Main s v k := ((and_t (K := fun x => k (valAV x)) (fun _ h => h)) : Pre s v → (fun x => k (valAV x)) (val s v) → Main s v k) h.1 hk
noncomputable def ts : List Ty := [(.sl (.int .u8)), (.int .u8)]
noncomputable def G : List AV → PV := pg2 (.sl (.int .u8)) (.int .u8) (fun s v => [Pre s v]) (fun s v => .v .bool (val s v))
theorem loopsOK : LoopsOK C callF (bodyOf Try.f48) := loopsOK_seek (tbl := loops) (fun _ => rfl) (by kernel_rfl) (fun _ h => nomatch h)
theorem pursOK : ∀ g ts F, C.pur g = some (ts, F) → SoundP Try.prog g F := purOf_ok (l := purs) (List.forall_mem_cons.2 ⟨Go.Proofs.Ytdjdbjcapenjeaa.C.F59.ok, fun _ h => nomatch h⟩)
theorem cfsOK : ∀ g, SoundF Try.prog g (callF g) := fun g => soundF_none g
theorem ok : SoundP Try.prog 48 G := by
  unfold G
  refine soundP_pg2 (soundF_run (C := C) (callF := callF) (tabOK C rfl rfl rfl) cfsOK pursOK Try.func48 (by kernel_rfl) loopsOK) [.bool] fun s v h => ?_
  rw [main]
  exact spec s v _ h rfl
end F48
namespace F27
noncomputable def purs : List (Nat × (List Ty × (List AV → PV))) := [(41, (Go.Proofs.Ytdjdbjcapenjeaa.A.F41.ts, Go.Proofs.Ytdjdbjcapenjeaa.A.F41.G)), (48, (Go.Proofs.Ytdjdbjcapenjeaa.C.F48.ts, Go.Proofs.Ytdjdbjcapenjeaa.C.F48.G)), (49, (Go.Proofs.Ytdjdbjcapenjeaa.B.F49.ts, Go.Proofs.Ytdjdbjcapenjeaa.B.F49.G))]
noncomputable def callF (g : FuncId) : CF := fun _ _ _ => False
noncomputable def loops : List (Nat × (List Nat × (K → Nat → St → Prop))) := []
noncomputable def C : Ctx := { ti := ti, meth := meth, can := can, pur := purOf purs, loops := fun i => seek loops i, gh := fun _ => [], rk := some ([2], 0) }
noncomputable def Main (c : D30) (k : AV → Prop) : Prop :=
  (bif decide (c.snd.snd.fst.fst < (1 : Int)) then k (.v .bool (false)) else (bif decide (c.snd.snd.fst.fst > (5 : Int)) then k (.v .bool (false)) else (bif decide (c.snd.snd.snd.snd.snd.fst < (0 : Int)) then k (.v .bool (false)) else (bif !A.F41.val c then (bif c.snd.snd.snd.fst == (0 : Int) then k (.v .bool ((↑(List.length c.snd.snd.snd.snd.fst) : Int) == (0 : Int))) else k (.v .bool (false))) else (bif decide (c.snd.snd.snd.snd.snd.snd.fst ≤ c.snd.snd.snd.snd.snd.fst) then k (.v .bool (false)) else ((F48.Pre (B.F49.val c.snd.snd.fst.fst) c.snd.snd.snd.fst) ∧ (bif !F48.val (B.F49.val c.snd.snd.fst.fst) c.snd.snd.snd.fst then k (.v .bool (false)) else (bif c.snd.snd.snd.fst == (4 : Int) then (bif c.snd.snd.fst.snd.snd.snd.snd.snd.fst then (bif c.snd.snd.fst.fst == (4 : Int) then k (.v .bool (false)) else (bif (↑(List.length c.snd.snd.snd.snd.fst) : Int) == (0 : Int) then k (.v .bool (true)) else (bif c.snd.snd.fst.fst == (1 : Int) then k (.v .bool (c.snd.snd.snd.fst == (1 : Int))) else k (.v .bool (false))))) else (bif (↑(List.length c.snd.snd.snd.snd.fst) : Int) == (0 : Int) then k (.v .bool (true)) else (bif c.snd.snd.fst.fst == (1 : Int) then k (.v .bool (c.snd.snd.snd.fst == (1 : Int))) else k (.v .bool (false))))) else (bif (↑(List.length c.snd.snd.snd.snd.fst) : Int) == (0 : Int) then k (.v .bool (true)) else (bif c.snd.snd.fst.fst == (1 : Int) then k (.v .bool (c.snd.snd.snd.fst == (1 : Int))) else k (.v .bool (false))))))))))))
theorem main (c : D30) (k : AV → Prop) : (runFn C callF Try.f27 [.v (.pair (.int .u8) (.pair (.int .u64) (.pair (.pair (.int .u8) (.pair (.int .u64) (.pair (.int .u64) (.pair (.sl (.int .u8)) (.pair (.sl (.int .u8)) (.pair .bool (.pair (.int .u8) .unit))))))) (.pair (.int .u8) (.pair (.sl (.int .u8)) (.pair (.int .i64) (.pair (.int .i64) .unit))))))) c] [] (fun r H => coRes H [.bool] r k)) = Main c k := by kernel_rfl
theorem few (k : Int) : (B.F49.val k).length ≤ LB := by
  have h : ∀ (c : Bool) (a b : List Int), a.length ≤ LB → b.length ≤ LB → (bif c then a else b).length ≤ LB := fun c a b h1 h2 => by cases c <;> assumption
  unfold B.F49.val
  repeat (first | exact (by decide) | apply h)
def val (c : D30) : Bool :=
  (bif decide (c.snd.snd.fst.fst < (1 : Int)) then (false) else (bif decide (c.snd.snd.fst.fst > (5 : Int)) then (false) else (bif decide (c.snd.snd.snd.snd.snd.fst < (0 : Int)) then (false) else (bif !A.F41.val c then (bif c.snd.snd.snd.fst == (0 : Int) then ((↑(List.length c.snd.snd.snd.snd.fst) : Int) == (0 : Int)) else (false)) else (bif decide (c.snd.snd.snd.snd.snd.snd.fst ≤ c.snd.snd.snd.snd.snd.fst) then (false) else (bif !F48.val (B.F49.val c.snd.snd.fst.fst) c.snd.snd.snd.fst then (false) else (bif c.snd.snd.snd.fst == (4 : Int) then (bif c.snd.snd.fst.snd.snd.snd.snd.snd.fst then (bif c.snd.snd.fst.fst == (4 : Int) then (false) else (bif (↑(List.length c.snd.snd.snd.snd.fst) : Int) == (0 : Int) then (true) else (bif c.snd.snd.fst.fst == (1 : Int) then (c.snd.snd.snd.fst == (1 : Int)) else (false)))) else (bif (↑(List.length c.snd.snd.snd.snd.fst) : Int) == (0 : Int) then (true) else (bif c.snd.snd.fst.fst == (1 : Int) then (c.snd.snd.snd.fst == (1 : Int)) else (false)))) else (bif (↑(List.length c.snd.snd.snd.snd.fst) : Int) == (0 : Int) then (true) else (bif c.snd.snd.fst.fst == (1 : Int) then (c.snd.snd.snd.fst == (1 : Int)) else (false))))))))))
def Pre (c : D30) : Prop :=
  (bif decide (c.snd.snd.fst.fst < (1 : Int)) then True else (bif decide (c.snd.snd.fst.fst > (5 : Int)) then True else (bif decide (c.snd.snd.snd.snd.snd.fst < (0 : Int)) then True else (bif !A.F41.val c then True else (bif decide (c.snd.snd.snd.snd.snd.snd.fst ≤ c.snd.snd.snd.snd.snd.fst) then True else (F48.Pre (B.F49.val c.snd.snd.fst.fst) c.snd.snd.snd.fst))))))
def valAV (x : Bool) : AV := .v .bool x
theorem preT (c : D30) : Pre c := by
  unfold Pre
  have hp : F48.Pre (B.F49.val c.snd.snd.fst.fst) c.snd.snd.snd.fst := few _
  repeat (first | exact trivial | exact hp | refine bif_all ?_ ?_)
theorem spec (c : D30) (k : AV → Prop) (_ : AllP []) (hk : k (.v .bool (val c))) : Main c k := ((bif_PV (K := fun x => k (valAV x)) (fun _ h => h) (bif_PV (K := fun x => k (valAV x)) (fun _ h => h) (bif_PV (K := fun x => k (valAV x)) (fun _ h => h) (bif_PV (K := fun x => k (valAV x)) (bif_pV (K := fun x => k (valAV x)) (fun _ h => h) (fun _ h => h)) (bif_PV (K := fun x => k (valAV x)) (fun _ h => h) (and_t (K := fun x => k (valAV x)) (bif_pV (K := fun x => k (valAV x)) (fun _ h => h) (bif_pV (K := fun x => k (valAV x)) (bif_pV (K := fun x => k (valAV x)) (bif_pV (K := fun x => k (valAV x)) (fun _ h => h) (bif_pV (K := fun x => k (valAV x)) (fun _ h => h) (bif_pV (K := fun x => k (valAV x)) (fun _ h => h) (fun _ h => h)))) (bif_pV (K := fun x => k (valAV x)) (fun _ h => h) (bif_pV (K := fun x => k (valAV x)) (fun _ h => h) (fun _ h => h)))) (bif_pV (K := fun x => k (valAV x)) (fun _ h => h) (bif_pV (K := fun x => k (valAV x)) (fun _ h => h) (fun _ h => h))))))))))) : Pre c → (fun x => k (valAV x)) (val c) → Main c k) (preT c) hk
noncomputable def ts : List Ty := [T30]
noncomputable def G : List AV → PV := pg1 T30 (fun c => []) (fun c => .v .bool (val c))
theorem loopsOK : LoopsOK C callF (bodyOf Try.f27) := loopsOK_seek (tbl := loops) (fun _ => rfl) (by kernel_rfl) (fun _ h => nomatch h)
theorem pursOK : ∀ g ts F, C.pur g = some (ts, F) → SoundP Try.prog g F := purOf_ok (l := purs) (List.forall_mem_cons.2 ⟨Go.Proofs.Ytdjdbjcapenjeaa.A.F41.ok, List.forall_mem_cons.2 ⟨Go.Proofs.Ytdjdbjcapenjeaa.C.F48.ok, List.forall_mem_cons.2 ⟨Go.Proofs.Ytdjdbjcapenjeaa.B.F49.ok, fun _ h => nomatch h⟩⟩⟩)
theorem cfsOK : ∀ g, SoundF Try.prog g (callF g) := fun g => soundF_none g
theorem ok : SoundP Try.prog 27 G := by
  unfold G
  refine soundP_pg1 (soundF_run (C := C) (callF := callF) (tabOK C rfl rfl rfl) cfsOK pursOK Try.func27 (by kernel_rfl) loopsOK) [.bool] fun c h => ?_
  rw [main]
  exact spec c _ h rfl
end F27
namespace F53
noncomputable def purs : List (Nat × (List Ty × (List AV → PV))) := [(27, (Go.Proofs.Ytdjdbjcapenjeaa.C.F27.ts, Go.Proofs.Ytdjdbjcapenjeaa.C.F27.G))]
noncomputable def callF (g : FuncId) : CF := fun _ _ _ => False
noncomputable def loops : List (Nat × (List Nat × (K → Nat → St → Prop))) := []
noncomputable def C : Ctx := { ti := ti, meth := meth, can := can, pur := purOf purs, loops := fun i => seek loops i, gh := fun _ => [], rk := some ([2], 0) }
noncomputable def Main (c : D30) (k : AV → Prop) : Prop :=
  k (.v .bool (!F27.val c))
theorem main (c : D30) (k : AV → Prop) : (runFn C callF Try.f53 [.v (.pair (.int .u8) (.pair (.int .u64) (.pair (.pair (.int .u8) (.pair (.int .u64) (.pair (.int .u64) (.pair (.sl (.int .u8)) (.pair (.sl (.int .u8)) (.pair .bool (.pair (.int .u8) .unit))))))) (.pair (.int .u8) (.pair (.sl (.int .u8)) (.pair (.int .i64) (.pair (.int .i64) .unit))))))) c] [] (fun r H => coRes H [.bool] r k)) = Main c k := by kernel_rfl
def val (c : D30) : Bool :=
  (!F27.val c)
def valAV (x : Bool) : AV := .v .bool x
theorem spec (c : D30) (k : AV → Prop) (_ : AllP []) (hk : k (.v .bool (val c))) : Main c k := (show (fun x => k (valAV x)) (val c) → Main c k from ((fun _ h => h) : True → (fun x => k (valAV x)) (val c) → Main c k) trivial) hk
noncomputable def ts : List Ty := [T30]
noncomputable def G : List AV → PV := pg1 T30 (fun c => []) (fun c => .v .bool (val c))
theorem loopsOK : LoopsOK C callF (bodyOf Try.f53) := loopsOK_seek (tbl := loops) (fun _ => rfl) (by kernel_rfl) (fun _ h => nomatch h)
theorem pursOK : ∀ g ts F, C.pur g = some (ts, F) → SoundP Try.prog g F := purOf_ok (l := purs) (List.forall_mem_cons.2 ⟨Go.Proofs.Ytdjdbjcapenjeaa.C.F27.ok, fun _ h => nomatch h⟩)
theorem cfsOK : ∀ g, SoundF Try.prog g (callF g) := fun g => soundF_none g
theorem ok : SoundP Try.prog 53 G := by
  unfold G
  refine soundP_pg1 (soundF_run (C := C) (callF := callF) (tabOK C rfl rfl rfl) cfsOK pursOK Try.func53 (by kernel_rfl) loopsOK) [.bool] fun c h => ?_
  rw [main]
  exact spec c _ h rfl
end F53
namespace F61
abbrev V2 := (List D30) × Int × Int
noncomputable def st2 (v : V2) : St := ⟨[.v (.sl T30) (v.1), .v .ref (.fn 53 []), .dead, .dead, .dead, .dead, .dead, .v (.int .i64) (v.2.1), .v (.int .i64) (v.2.2), .dead, .dead, .dead, .dead, .dead, .dead, .dead, .dead, .dead, .dead], []⟩
noncomputable def dec2 (s : St) : Option V2 := match gV (.sl T30) (s.T.getD 0 .dead), gV (.int .i64) (s.T.getD 7 .dead), gV (.int .i64) (s.T.getD 8 .dead) with | some a0, some a7, some a8 => some (a0, a7, a8) | _, _, _ => none
noncomputable def keep2 : List Nat := [0, 1, 7, 8]
noncomputable def body2 : Code := bodyAt (loopsOf (bodyOf Try.f61)) 2
noncomputable def s0 (x4 : Int) : St := ⟨[.dead, .dead, .dead, .dead, .v (.int .i64) x4, .dead, .dead, .dead, .dead, .dead, .dead, .dead, .dead, .dead, .dead, .dead, .dead, .dead, .dead], []⟩
noncomputable def s1 : St := ⟨[.dead, .dead, .dead, .dead, .dead, .dead, .dead, .dead, .dead, .dead, .dead, .dead, .dead, .dead, .dead, .dead, .dead, .dead, .dead], []⟩
/-- The first place of a call of which it holds, or -1. -/
def ixC (p : D30 → Bool) : List D30 → Int → Int
  | [], _ => -1
  | x :: r, i => bif p x then i else ixC p r (i + 1)
theorem ixC_lt (p : D30 → Bool) : ∀ (l : List D30) (i : Int), 0 ≤ i → (0 ≤ ixC p l i ↔ l.any p = true) ∧ (ixC p l i = -1 ∨ 0 ≤ ixC p l i)
  | [], i, h => by simp [ixC]
  | x :: r, i, h => by
    simp only [ixC, List.any_cons]
    cases hp : p x with
    | true => simp; omega
    | false => simpa using ixC_lt p r (i + 1) (by omega)
def Q2 : V2 → (Nat → St → Prop) → (St → Prop) → Prop := fun (s, n, i) X R => 0 ≤ i ∧ i ≤ n ∧ n = s.length ∧ s.length ≤ LB ∧ bif decide (0 ≤ ixC F53.val (s.drop i.toNat) i) then R (s0 (ixC F53.val (s.drop i.toNat) i)) else X 0 s1
noncomputable def purs : List (Nat × (List Ty × (List AV → PV))) := [(53, (Go.Proofs.Ytdjdbjcapenjeaa.C.F53.ts, Go.Proofs.Ytdjdbjcapenjeaa.C.F53.G))]
noncomputable def callF (g : FuncId) : CF := fun _ _ _ => False
noncomputable def L2 : K → Nat → St → Prop := mkL dec2 st2 0 0 [] Q2
noncomputable def loops : List (Nat × (List Nat × (K → Nat → St → Prop))) := [(2, (keep2, L2))]
noncomputable def C : Ctx := { ti := ti, meth := meth, can := can, pur := purOf purs, loops := fun i => seek loops i, gh := fun _ => [], xk := fun i => seek [(0, ([], 0))] i, rk := some ([4], 0) }
noncomputable def Round2 (x0 : (List D30)) (x7 : Int) (x8 : Int) (N : St → Prop) (X : Nat → St → Prop) (R : St → Prop) : Prop :=
  (bif decide (x8 < x7) then (((0 : Int) ≤ x8) ∧ ((x8 < (↑x0.length : Int)) ∧ (bif F53.val (x0.getD x8.toNat d30) then R (s0 (x8)) else N (st2 (x0, x7, IntKind.i64.wrap (x8 + (1 : Int))))))) else X 0 (s1))
theorem round2 (x0 : (List D30)) (x7 : Int) (x8 : Int) (N : St → Prop) (X : Nat → St → Prop) (R : St → Prop) : exec C callF body2 ⟨0, [0], fun s' => cond (Nat.ble 0 s'.H.length) (N (scrub keep2 0 s')) False, X, R⟩ (st2 (x0, x7, x8)) = Round2 x0 x7 x8 N X R := by kernel_rfl
noncomputable def Main (s : (List D30)) (k : AV → List HObj → Prop) : Prop :=
  (st2 (s, (↑s.length : Int), (0 : Int)) = st2 (s, (↑s.length : Int), (0 : Int)) ∧ (((0 : Int) ≤ (0 : Int)) ∧ (((0 : Int) ≤ (↑s.length : Int)) ∧ (((↑s.length : Int) = (↑s.length : Int)) ∧ ((s.length ≤ LB) ∧ (bif decide ((0 : Int) ≤ ixC F53.val s (0 : Int)) then k (.v (.int .i64) (ixC F53.val s (0 : Int))) [] else k (.v (.int .i64) ((-1 : Int))) []))))))
theorem main (s : (List D30)) (k : AV → List HObj → Prop) : (runFn C callF Try.f61 [.v (.sl (.pair (.int .u8) (.pair (.int .u64) (.pair (.pair (.int .u8) (.pair (.int .u64) (.pair (.int .u64) (.pair (.sl (.int .u8)) (.pair (.sl (.int .u8)) (.pair .bool (.pair (.int .u8) .unit))))))) (.pair (.int .u8) (.pair (.sl (.int .u8)) (.pair (.int .i64) (.pair (.int .i64) .unit)))))))) s, .v .ref (.fn 53 [])] [] k) = Main s k := by kernel_rfl
theorem loop2 (v : V2) (X : Nat → St → Prop) (R : St → Prop) : Q2 v X R → ∃ m, loopN C callF keep2 0 body2 ⟨0, [], fun _ => False, X, R⟩ m (st2 v) := by
  refine loop_ind (fun v => Q2 v X R) (fun v => v.1.length - v.2.2.toNat) ?_ v
  rintro ⟨s, n, i⟩ ⟨h0, h1, h2, h3, h4⟩ N hN
  rw [round2]
  obtain ⟨j, rfl⟩ : ∃ j : Nat, i = j := ⟨i.toNat, by omega⟩
  dsimp only at hN
  rw [Int.toNat_natCast] at h4
  have h3' : s.length ≤ 1073741824 := h3
  subst h2
  refine bif_d (fun hj => ⟨by omega, hj, ?_⟩) (fun hj => ?_)
  · rw [drop_cons (l := s) (by omega) d30] at h4
    rw [Int.toNat_natCast]
    refine bif_i (fun he => ?_) (fun hne => ?_)
    · have e : ixC F53.val (s.getD j d30 :: s.drop (j + 1)) j = j := by simp only [ixC, he, cond_true]
      rw [e, decide_eq_true (by omega)] at h4
      exact h4
    · have e : ixC F53.val (s.getD j d30 :: s.drop (j + 1)) j = ixC F53.val (s.drop (j + 1)) (j + 1) := by simp only [ixC, hne, cond_false]
      rw [e] at h4
      rw [w64n (by omega)]
      refine hN _ ⟨by omega, by omega, rfl, h3, ?_⟩ (by dsimp only; omega)
      rw [Int.toNat_natCast, Int.natCast_add]
      exact h4
  · rw [List.drop_eq_nil_of_le (by omega)] at h4
    exact h4
abbrev VA := (List D30)
noncomputable def stA (v : VA) : St := ⟨[.v (.sl T30) (v), .v .ref (.fn 53 [])], []⟩
noncomputable def decA (s : St) : Option VA := match gV (.sl T30) (s.T.getD 0 .dead) with | some a0 => some (a0) | _ => none
def QA : VA → (AV → List HObj → Prop) → Prop := fun s κ => s.length ≤ LB ∧ κ (.v (.int .i64) (ixC F53.val s 0)) []
theorem spec (s : List D30) (κ : AV → List HObj → Prop) (h : QA s κ) : Main s κ := by
  refine ⟨rfl, by omega, by omega, rfl, h.1, ?_⟩
  have h2 := h.2
  refine bif_d (fun _ => h2) (fun hn => ?_)
  rcases (ixC_lt F53.val s 0 (by omega)).2 with e | e
  · rw [e] at h2; exact h2
  · exact absurd e hn
noncomputable def cf : CF := mkC decA stA QA
theorem loopsOK : LoopsOK C callF (bodyOf Try.f61) := loopsOK_seek (tbl := loops) (fun _ => rfl) (by kernel_rfl) (List.forall_mem_cons.2 ⟨mkL_ok loop2, fun _ h => nomatch h⟩)
theorem pursOK : ∀ g ts F, C.pur g = some (ts, F) → SoundP Try.prog g F := purOf_ok (l := purs) (List.forall_mem_cons.2 ⟨Go.Proofs.Ytdjdbjcapenjeaa.C.F53.ok, fun _ h => nomatch h⟩)
theorem cfsOK : ∀ g, SoundF Try.prog g (callF g) := fun g => soundF_none g
theorem ok : SoundF Try.prog 61 cf := mkC_ok (soundF_run (C := C) (callF := callF) (tabOK C rfl rfl rfl) cfsOK pursOK Try.func61 (by kernel_rfl) loopsOK) (by
  intro s κ hq
  show runFn C callF Try.f61 [.v (.sl T30) s, .v .ref (.fn 53 [])] [] κ
  rw [main]
  exact spec s κ hq)
end F61
namespace F52
noncomputable def purs : List (Nat × (List Ty × (List AV → PV))) := []
noncomputable def callF (g : FuncId) : CF := match seek [(61, Go.Proofs.Ytdjdbjcapenjeaa.C.F61.cf)] g with | some F => F | none => fun _ _ _ => False
noncomputable def loops : List (Nat × (List Nat × (K → Nat → St → Prop))) := []
noncomputable def C : Ctx := { ti := ti, meth := meth, can := can, pur := purOf purs, loops := fun i => seek loops i, gh := fun _ => [], rk := some ([4], 0) }
noncomputable def Main (s : (List D30)) (k : AV → List HObj → Prop) : Prop :=
  (F61.stA s = F61.stA s ∧ ((s.length ≤ LB) ∧ k (.v .bool (decide (F61.ixC F53.val s (0 : Int) ≥ (0 : Int)))) []))
theorem main (s : (List D30)) (k : AV → List HObj → Prop) : (runFn C callF Try.f52 [.v (.sl (.pair (.int .u8) (.pair (.int .u64) (.pair (.pair (.int .u8) (.pair (.int .u64) (.pair (.int .u64) (.pair (.sl (.int .u8)) (.pair (.sl (.int .u8)) (.pair .bool (.pair (.int .u8) .unit))))))) (.pair (.int .u8) (.pair (.sl (.int .u8)) (.pair (.int .i64) (.pair (.int .i64) .unit)))))))) s, .v .ref (.fn 53 [])] [] k) = Main s k := by kernel_rfl
abbrev VA := (List D30)
noncomputable def stA (v : VA) : St := ⟨[.v (.sl T30) (v), .v .ref (.fn 53 [])], []⟩
noncomputable def decA (s : St) : Option VA := match gV (.sl T30) (s.T.getD 0 .dead) with | some a0 => some (a0) | _ => none
def QA : VA → (AV → List HObj → Prop) → Prop := fun s κ => s.length ≤ LB ∧ κ (.v .bool (s.any F53.val)) []
theorem spec (s : List D30) (κ : AV → List HObj → Prop) (h : QA s κ) : Main s κ := by
  refine ⟨rfl, h.1, ?_⟩
  have h2 := h.2
  rw [show s.any F53.val = decide (0 ≤ F61.ixC F53.val s 0) by rw [Bool.eq_iff_iff, decide_eq_true_iff]; exact (F61.ixC_lt F53.val s 0 (by omega)).1.symm] at h2
  exact h2
noncomputable def cf : CF := mkC decA stA QA
theorem loopsOK : LoopsOK C callF (bodyOf Try.f52) := loopsOK_seek (tbl := loops) (fun _ => rfl) (by kernel_rfl) (fun _ h => nomatch h)
theorem pursOK : ∀ g ts F, C.pur g = some (ts, F) → SoundP Try.prog g F := purOf_ok (l := purs) (fun _ h => nomatch h)
theorem cfsOK : ∀ g, SoundF Try.prog g (callF g) := callsOK (l := [(61, Go.Proofs.Ytdjdbjcapenjeaa.C.F61.cf)]) (List.forall_mem_cons.2 ⟨Go.Proofs.Ytdjdbjcapenjeaa.C.F61.ok, fun _ h => nomatch h⟩)
theorem ok : SoundF Try.prog 52 cf := mkC_ok (soundF_run (C := C) (callF := callF) (tabOK C rfl rfl rfl) cfsOK pursOK Try.func52 (by kernel_rfl) loopsOK) (by
  intro s κ hq
  show runFn C callF Try.f52 [.v (.sl T30) s, .v .ref (.fn 53 [])] [] κ
  rw [main]
  exact spec s κ hq)
end F52
namespace F31
noncomputable def purs : List (Nat × (List Ty × (List AV → PV))) := [(53, (Go.Proofs.Ytdjdbjcapenjeaa.C.F53.ts, Go.Proofs.Ytdjdbjcapenjeaa.C.F53.G))]
noncomputable def callF (g : FuncId) : CF := match seek [(52, Go.Proofs.Ytdjdbjcapenjeaa.C.F52.cf)] g with | some F => F | none => fun _ _ _ => False
noncomputable def loops : List (Nat × (List Nat × (K → Nat → St → Prop))) := []
noncomputable def C : Ctx := { ti := ti, meth := meth, can := can, pur := purOf purs, loops := fun i => seek loops i, gh := fun _ => [], rk := some ([2], 0) }
noncomputable def Main (s : (List D30)) (k : AV → Prop) : Prop :=
  (F52.stA s = F52.stA s ∧ ((s.length ≤ LB) ∧ k (.v .bool (!s.any F53.val))))
theorem main (s : (List D30)) (k : AV → Prop) : (runFn C callF Try.f31 [.v (.sl (.pair (.int .u8) (.pair (.int .u64) (.pair (.pair (.int .u8) (.pair (.int .u64) (.pair (.int .u64) (.pair (.sl (.int .u8)) (.pair (.sl (.int .u8)) (.pair .bool (.pair (.int .u8) .unit))))))) (.pair (.int .u8) (.pair (.sl (.int .u8)) (.pair (.int .i64) (.pair (.int .i64) .unit)))))))) s] [] (fun r H => coRes H [.bool] r k)) = Main s k := by kernel_rfl
def val (s : (List D30)) : Bool :=
  (!s.any F53.val)
def Pre (s : (List D30)) : Prop :=
  (s.length ≤ LB)
def valAV (x : Bool) : AV := .v .bool x
theorem spec (s : (List D30)) (k : AV → Prop) (h : AllP [Pre s]) (hk : k (.v .bool (val s))) : Main s k := ((and_c (K := fun x => k (valAV x)) rfl (and_t (K := fun x => k (valAV x)) (fun _ h => h))) : Pre s → (fun x => k (valAV x)) (val s) → Main s k) h.1 hk
noncomputable def ts : List Ty := [(.sl T30)]
noncomputable def G : List AV → PV := pg1 (.sl T30) (fun s => [Pre s]) (fun s => .v .bool (val s))
theorem loopsOK : LoopsOK C callF (bodyOf Try.f31) := loopsOK_seek (tbl := loops) (fun _ => rfl) (by kernel_rfl) (fun _ h => nomatch h)
theorem pursOK : ∀ g ts F, C.pur g = some (ts, F) → SoundP Try.prog g F := purOf_ok (l := purs) (List.forall_mem_cons.2 ⟨Go.Proofs.Ytdjdbjcapenjeaa.C.F53.ok, fun _ h => nomatch h⟩)
theorem cfsOK : ∀ g, SoundF Try.prog g (callF g) := callsOK (l := [(52, Go.Proofs.Ytdjdbjcapenjeaa.C.F52.cf)]) (List.forall_mem_cons.2 ⟨Go.Proofs.Ytdjdbjcapenjeaa.C.F52.ok, fun _ h => nomatch h⟩)
theorem ok : SoundP Try.prog 31 G := by
  unfold G
  refine soundP_pg1 (soundF_run (C := C) (callF := callF) (tabOK C rfl rfl rfl) cfsOK pursOK Try.func31 (by kernel_rfl) loopsOK) [.bool] fun s h => ?_
  rw [main]
  exact spec s _ h rfl
end F31
namespace F9
abbrev V3 := (List D30) × Nat × Int × (List D30)
noncomputable def st3 (v : V3) : St := ⟨[.v (.sl T30) (v.1), .dead, .dead, .v .ref (.sl 0 0 (v.2.1)), .v (.int .i64) (v.2.2.1), .dead, .dead, .dead, .dead, .dead, .dead, .dead, .dead, .dead, .dead, .dead, .dead, .dead, .dead, .dead, .dead, .dead, .dead, .dead, .dead, .dead, .dead, .dead, .dead, .dead, .dead, .dead, .dead, .dead, .dead, .dead, .dead], [.row T30 (v.2.2.2) 30]⟩
noncomputable def dec3 (s : St) : Option V3 := match gV (.sl T30) (s.T.getD 0 .dead), gV .ref (s.T.getD 3 .dead), gV (.int .i64) (s.T.getD 4 .dead), gRow T30 s.H[0]? with | some a0, some a3, some a4, some b0 => some (a0, rN (a3), a4, b0) | _, _, _, _ => none
noncomputable def keep3 : List Nat := [0, 3, 4]
noncomputable def body3 : Code := bodyAt (loopsOf (bodyOf Try.f9)) 3
noncomputable def s0 (n3 : Nat) (h0 : (List D30)) : St := ⟨[.dead, .dead, .dead, .v .ref (.sl 0 0 n3), .dead, .dead, .dead, .dead, .dead, .dead, .dead, .dead, .dead, .dead, .dead, .dead, .dead, .dead, .dead, .dead, .dead, .dead, .dead, .dead, .dead, .dead, .dead, .dead, .dead, .dead, .dead, .dead, .dead, .dead, .dead, .dead, .dead], [.row T30 h0 30]⟩
/-- Its lists are not too long. -/
def LC (c : D30) : Prop := c.2.2.2.2.1.length ≤ LB ∧ c.2.2.1.2.2.2.1.length ≤ LB ∧ c.2.2.1.2.2.2.2.1.length ≤ LB
def Q3 : V3 → (Nat → St → Prop) → (St → Prop) → Prop := fun (cs, n, i, h) X R => 0 ≤ i ∧ i ≤ cs.length ∧ cs.length ≤ LB ∧ (n : Int) = i ∧ h = cs.take n ∧ (∀ c ∈ cs, LC c) ∧ X 0 (s0 cs.length cs)
noncomputable def purs : List (Nat × (List Ty × (List AV → PV))) := [(10, (Go.Proofs.Ytdjdbjcapenjeaa.B.F10.ts, Go.Proofs.Ytdjdbjcapenjeaa.B.F10.G))]
noncomputable def callF (g : FuncId) : CF := fun _ _ _ => False
noncomputable def L3 : K → Nat → St → Prop := mkL dec3 st3 0 1 [] Q3
noncomputable def loops : List (Nat × (List Nat × (K → Nat → St → Prop))) := [(3, (keep3, L3))]
noncomputable def C : Ctx := { ti := ti, meth := meth, can := can, pur := purOf purs, loops := fun i => seek loops i, gh := fun i => (seek [(2, [.own 3 (.pair (.int .u8) (.pair (.int .u64) (.pair (.pair (.int .u8) (.pair (.int .u64) (.pair (.int .u64) (.pair (.sl (.int .u8)) (.pair (.sl (.int .u8)) (.pair .bool (.pair (.int .u8) .unit))))))) (.pair (.int .u8) (.pair (.sl (.int .u8)) (.pair (.int .i64) (.pair (.int .i64) .unit))))))) 30])] i).getD [], xk := fun i => seek [(0, ([3], 0))] i }
noncomputable def Round3 (x0 : (List D30)) (n3 : Nat) (x4 : Int) (h0 : (List D30)) (N : St → Prop) (X : Nat → St → Prop) (R : St → Prop) : Prop :=
  (bif decide (x4 < (↑x0.length : Int)) then (((0 : Int) ≤ x4) ∧ ((x4 < (↑x0.length : Int)) ∧ ((List.length (x0.getD x4.toNat d30).snd.snd.snd.snd.fst ≤ LB) ∧ ((List.length (x0.getD x4.toNat d30).snd.snd.fst.snd.snd.snd.fst ≤ LB) ∧ ((List.length (x0.getD x4.toNat d30).snd.snd.fst.snd.snd.snd.snd.fst ≤ LB) ∧ ((n3 ≤ h0.length) ∧ ((n3 + (1 : Nat) ≤ (488671834567 : Nat)) ∧ (((0 : Nat) + (1 : Nat) ≤ (1 : Nat)) ∧ N (st3 (x0, n3 + (1 : Nat), IntKind.i64.wrap (x4 + (1 : Int)), List.take n3 h0 ++ [x0.getD x4.toNat d30])))))))))) else X 0 (s0 (n3) (h0)))
theorem round3 (x0 : (List D30)) (n3 : Nat) (x4 : Int) (h0 : (List D30)) (N : St → Prop) (X : Nat → St → Prop) (R : St → Prop) : exec C callF body3 ⟨0, [1], fun s' => cond (Nat.ble 1 s'.H.length) (N (scrub keep3 1 s')) False, X, R⟩ (st3 (x0, n3, x4, h0)) = Round3 x0 n3 x4 h0 N X R := by kernel_rfl
noncomputable def Main (calls : (List D30)) (k : AV → Prop) : Prop :=
  (st3 (calls, (0 : Nat), (0 : Int), []) = st3 (calls, (0 : Nat), (0 : Int), []) ∧ (((0 : Int) ≤ (0 : Int)) ∧ (((0 : Int) ≤ (↑calls.length : Int)) ∧ ((calls.length ≤ LB) ∧ (((↑(0 : Nat) : Int) = (0 : Int)) ∧ (([] = List.take (0 : Nat) calls) ∧ ((∀ (c : D30), c ∈ calls → LC c) ∧ (((0 : Nat) + calls.length ≤ calls.length) ∧ k (.v (.sl T30) (List.take calls.length calls))))))))))
theorem main (calls : (List D30)) (k : AV → Prop) : (runFn C callF Try.f9 [.v (.sl (.pair (.int .u8) (.pair (.int .u64) (.pair (.pair (.int .u8) (.pair (.int .u64) (.pair (.int .u64) (.pair (.sl (.int .u8)) (.pair (.sl (.int .u8)) (.pair .bool (.pair (.int .u8) .unit))))))) (.pair (.int .u8) (.pair (.sl (.int .u8)) (.pair (.int .i64) (.pair (.int .i64) .unit)))))))) calls] [] (fun r H => coRes H [(.sl (.pair (.int .u8) (.pair (.int .u64) (.pair (.pair (.int .u8) (.pair (.int .u64) (.pair (.int .u64) (.pair (.sl (.int .u8)) (.pair (.sl (.int .u8)) (.pair .bool (.pair (.int .u8) .unit))))))) (.pair (.int .u8) (.pair (.sl (.int .u8)) (.pair (.int .i64) (.pair (.int .i64) .unit))))))))] r k)) = Main calls k := by kernel_rfl
theorem getD_mem {α : Type} {l : List α} {i : Nat} (h : i < l.length) (d : α) : l.getD i d ∈ l := by
  rw [List.getD_eq_getElem?_getD, List.getElem?_eq_getElem h]; exact List.getElem_mem h
theorem loop3 (v : V3) (X : Nat → St → Prop) (R : St → Prop) : Q3 v X R → ∃ m, loopN C callF keep3 1 body3 ⟨0, [], fun _ => False, X, R⟩ m (st3 v) := by
  refine loop_ind (fun v => Q3 v X R) (fun v => v.1.length - v.2.2.1.toNat) ?_ v
  rintro ⟨cs, n, i, h⟩ ⟨h0, h1, h2, rfl, rfl, h5, h6⟩ N hN
  rw [round3]
  dsimp only at hN
  have h2' : cs.length ≤ 1073741824 := h2
  refine bif_d (fun hj => ?_) (fun hj => ?_)
  · have hn : n < cs.length := by omega
    obtain ⟨g1, g2, g3⟩ := h5 _ (getD_mem hn d30)
    rw [w64n (by omega)]
    have e : List.take n (List.take n cs) ++ [cs.getD n d30] = cs.take (n + 1) := by
      rw [List.take_take, Nat.min_self, List.take_succ_eq_append_getElem hn, List.getD_eq_getElem?_getD, List.getElem?_eq_getElem hn]; rfl
    refine ⟨by omega, hj, g1, g2, g3, by simp; omega, by omega, by decide, ?_⟩
    refine hN (cs, n + 1, ((n + 1 : Nat) : Int), _) ⟨by omega, by omega, h2, rfl, e, h5, h6⟩ (by dsimp only; omega)
  · have : n = cs.length := by omega
    subst this
    rw [List.take_length]
    exact h6
theorem spec (cs : List D30) (k : AV → Prop) (h : AllP [cs.length ≤ LB, ∀ c ∈ cs, LC c]) (hk : k (.v (.sl T30) cs)) : Main cs k := by
  refine ⟨rfl, by omega, by omega, h.1, rfl, rfl, h.2.1, by omega, ?_⟩
  simpa using hk
noncomputable def ts : List Ty := [(.sl T30)]
noncomputable def G : List AV → PV := pg1 (.sl T30) (fun calls => [calls.length ≤ LB, ∀ c ∈ calls, LC c]) (fun calls => .v (.sl T30) calls)
theorem loopsOK : LoopsOK C callF (bodyOf Try.f9) := loopsOK_seek (tbl := loops) (fun _ => rfl) (by kernel_rfl) (List.forall_mem_cons.2 ⟨mkL_ok loop3, fun _ h => nomatch h⟩)
theorem pursOK : ∀ g ts F, C.pur g = some (ts, F) → SoundP Try.prog g F := purOf_ok (l := purs) (List.forall_mem_cons.2 ⟨Go.Proofs.Ytdjdbjcapenjeaa.B.F10.ok, fun _ h => nomatch h⟩)
theorem cfsOK : ∀ g, SoundF Try.prog g (callF g) := fun g => soundF_none g
theorem ok : SoundP Try.prog 9 G := by
  unfold G
  refine soundP_pg1 (soundF_run (C := C) (callF := callF) (tabOK C rfl rfl rfl) cfsOK pursOK Try.func9 (by kernel_rfl) loopsOK) [(.sl T30)] fun calls h => ?_
  rw [main]
  exact spec calls _ h rfl
end F9
namespace F34
abbrev V2 := (List D30) × Int
noncomputable def st2 (v : V2) : St := ⟨[.v (.sl T30) (v.1), .dead, .dead, .v (.int .i64) (v.2), .dead, .dead, .dead, .dead, .dead, .dead, .dead, .dead, .dead, .dead, .dead, .dead], []⟩
noncomputable def dec2 (s : St) : Option V2 := match gV (.sl T30) (s.T.getD 0 .dead), gV (.int .i64) (s.T.getD 3 .dead) with | some a0, some a3 => some (a0, a3) | _, _ => none
noncomputable def keep2 : List Nat := [0, 3]
noncomputable def body2 : Code := bodyAt (loopsOf (bodyOf Try.f34)) 2
noncomputable def s0 (x2 : Bool) : St := ⟨[.dead, .dead, .v .bool x2, .dead, .dead, .dead, .dead, .dead, .dead, .dead, .dead, .dead, .dead, .dead, .dead, .dead], []⟩
noncomputable def s1 : St := ⟨[.dead, .dead, .dead, .dead, .dead, .dead, .dead, .dead, .dead, .dead, .dead, .dead, .dead, .dead, .dead, .dead], []⟩
def Q2 : V2 → (Nat → St → Prop) → (St → Prop) → Prop := fun (x0, x3) X R => 0 ≤ x3 ∧ x3 ≤ x0.length ∧ x0.length ≤ LB ∧ True ∧ (True) ∧ bif (x0.drop x3.toNat).all (B.F25.val) then X 0 s1 else R (s0 false)
noncomputable def purs : List (Nat × (List Ty × (List AV → PV))) := [(25, (Go.Proofs.Ytdjdbjcapenjeaa.B.F25.ts, Go.Proofs.Ytdjdbjcapenjeaa.B.F25.G))]
noncomputable def callF (g : FuncId) : CF := fun _ _ _ => False
noncomputable def L2 : K → Nat → St → Prop := mkL dec2 st2 0 0 [] Q2
noncomputable def loops : List (Nat × (List Nat × (K → Nat → St → Prop))) := [(2, (keep2, L2))]
noncomputable def C : Ctx := { ti := ti, meth := meth, can := can, pur := purOf purs, loops := fun i => seek loops i, gh := fun _ => [], xk := fun i => seek [(0, ([], 0))] i, rk := some ([2], 0) }
noncomputable def Round2 (x0 : (List D30)) (x3 : Int) (N : St → Prop) (X : Nat → St → Prop) (R : St → Prop) : Prop :=
  (bif decide (x3 < (↑x0.length : Int)) then (((0 : Int) ≤ x3) ∧ ((x3 < (↑x0.length : Int)) ∧ (bif !B.F25.val (x0.getD x3.toNat d30) then R (s0 (false)) else N (st2 (x0, IntKind.i64.wrap (x3 + (1 : Int))))))) else X 0 (s1))
theorem round2 (x0 : (List D30)) (x3 : Int) (N : St → Prop) (X : Nat → St → Prop) (R : St → Prop) : exec C callF body2 ⟨0, [0], fun s' => cond (Nat.ble 0 s'.H.length) (N (scrub keep2 0 s')) False, X, R⟩ (st2 (x0, x3)) = Round2 x0 x3 N X R := by kernel_rfl
noncomputable def Main (calls : (List D30)) (k : AV → Prop) : Prop :=
  (st2 (calls, (0 : Int)) = st2 (calls, (0 : Int)) ∧ (((0 : Int) ≤ (0 : Int)) ∧ (((0 : Int) ≤ (↑calls.length : Int)) ∧ ((calls.length ≤ LB) ∧ ((True) ∧ ((True) ∧ (bif calls.all B.F25.val then k (.v .bool (true)) else k (.v .bool (false)))))))))
theorem main (calls : (List D30)) (k : AV → Prop) : (runFn C callF Try.f34 [.v (.sl (.pair (.int .u8) (.pair (.int .u64) (.pair (.pair (.int .u8) (.pair (.int .u64) (.pair (.int .u64) (.pair (.sl (.int .u8)) (.pair (.sl (.int .u8)) (.pair .bool (.pair (.int .u8) .unit))))))) (.pair (.int .u8) (.pair (.sl (.int .u8)) (.pair (.int .i64) (.pair (.int .i64) .unit)))))))) calls] [] (fun r H => coRes H [.bool] r k)) = Main calls k := by kernel_rfl
theorem loop2 (v : V2) (X : Nat → St → Prop) (R : St → Prop) : Q2 v X R → ∃ m, loopN C callF keep2 0 body2 ⟨0, [], fun _ => False, X, R⟩ m (st2 v) := by
  refine loop_ind (fun v => Q2 v X R) (fun (x0, x3) => x0.length - x3.toNat) ?_ v
  rintro ⟨x0, x3⟩ ⟨h0, h1, h2, hn, hx, h4⟩ N hN
  rw [round2]
  obtain ⟨j, rfl⟩ : ∃ j : Nat, x3 = j := ⟨x3.toNat, by omega⟩
  dsimp only at hN
  rw [Int.toNat_natCast] at h4
  have h2' : x0.length ≤ 1073741824 := h2
  refine bif_d (fun hj => ?_) (fun hj => ?_)
  · have hjn : j < x0.length := by omega
    rw [drop_cons (l := x0) hjn d30, List.all_cons] at h4
    refine ⟨by omega, hj, ?_⟩
    rw [Int.toNat_natCast]
    cases hp : (B.F25.val) (x0.getD j d30) with
    | false =>
      try dsimp only at hp
      rw [hp, Bool.false_and, cond_false] at h4
      exact bif_i (fun he => by first | exact h4 | (exfalso; rw [he] at hp; cases hp) | (exfalso; rw [hp] at he; cases he) | exact absurd he (by decide)) (fun he => by first | exact h4 | (exfalso; rw [he] at hp; cases hp) | (exfalso; rw [hp] at he; cases he) | exact absurd he (by decide))
    | true =>
      try dsimp only at hp
      rw [hp, Bool.true_and] at h4
      have hN' : N (st2 (x0, ((j + 1 : Nat) : Int))) := hN _ ⟨by omega, by omega, h2, hn, hx, by rw [Int.toNat_natCast]; exact h4⟩ (by dsimp only; omega)
      rw [w64n (by omega)]
      exact bif_i (fun he => by first | exact hN' | (exfalso; rw [he] at hp; cases hp) | (exfalso; rw [hp] at he; cases he) | exact absurd he (by decide)) (fun he => by first | exact hN' | (exfalso; rw [he] at hp; cases hp) | (exfalso; rw [hp] at he; cases he) | exact absurd he (by decide))
  · rw [List.drop_eq_nil_of_le (by omega)] at h4
    exact h4
theorem spec (cs : List D30) (k : AV → Prop) (h : AllP [cs.length ≤ LB]) (hk : k (.v .bool (cs.all B.F25.val))) : Main cs k := by
  refine ⟨rfl, by omega, by omega, h.1, trivial, trivial, ?_⟩
  show bif cs.all B.F25.val then k _ else k _
  cases e : cs.all B.F25.val <;> (rw [e] at hk; exact hk)
noncomputable def ts : List Ty := [(.sl T30)]
noncomputable def G : List AV → PV := pg1 (.sl T30) (fun calls => [calls.length ≤ LB]) (fun calls => .v .bool (calls.all B.F25.val))
theorem loopsOK : LoopsOK C callF (bodyOf Try.f34) := loopsOK_seek (tbl := loops) (fun _ => rfl) (by kernel_rfl) (List.forall_mem_cons.2 ⟨mkL_ok loop2, fun _ h => nomatch h⟩)
theorem pursOK : ∀ g ts F, C.pur g = some (ts, F) → SoundP Try.prog g F := purOf_ok (l := purs) (List.forall_mem_cons.2 ⟨Go.Proofs.Ytdjdbjcapenjeaa.B.F25.ok, fun _ h => nomatch h⟩)
theorem cfsOK : ∀ g, SoundF Try.prog g (callF g) := fun g => soundF_none g
theorem ok : SoundP Try.prog 34 G := by
  unfold G
  refine soundP_pg1 (soundF_run (C := C) (callF := callF) (tabOK C rfl rfl rfl) cfsOK pursOK Try.func34 (by kernel_rfl) loopsOK) [.bool] fun calls h => ?_
  rw [main]
  exact spec calls _ h rfl
end F34
namespace F38
abbrev V2 := (List Int) × Int × Int
noncomputable def st2 (v : V2) : St := ⟨[.v (.sl (.int .i64)) (v.1), .v (.int .i64) (v.2.1), .dead, .dead, .dead, .v (.int .i64) (v.2.2), .dead, .dead, .dead, .dead, .dead, .dead, .dead, .dead, .dead, .dead, .dead, .dead], []⟩
noncomputable def dec2 (s : St) : Option V2 := match gV (.sl (.int .i64)) (s.T.getD 0 .dead), gV (.int .i64) (s.T.getD 1 .dead), gV (.int .i64) (s.T.getD 5 .dead) with | some a0, some a1, some a5 => some (a0, a1, a5) | _, _, _ => none
noncomputable def keep2 : List Nat := [0, 1, 5]
noncomputable def body2 : Code := bodyAt (loopsOf (bodyOf Try.f38)) 2
noncomputable def s0 (x4 : Bool) : St := ⟨[.dead, .dead, .dead, .dead, .v .bool x4, .dead, .dead, .dead, .dead, .dead, .dead, .dead, .dead, .dead, .dead, .dead, .dead, .dead], []⟩
noncomputable def s1 : St := ⟨[.dead, .dead, .dead, .dead, .dead, .dead, .dead, .dead, .dead, .dead, .dead, .dead, .dead, .dead, .dead, .dead, .dead, .dead], []⟩
def Q2 : V2 → (Nat → St → Prop) → (St → Prop) → Prop := fun (x0, x1, x5) X R => 0 ≤ x5 ∧ x5 ≤ x0.length ∧ x0.length ≤ LB ∧ True ∧ (True) ∧ bif (x0.drop x5.toNat).all (fun y => !(y == x1)) then X 0 s1 else R (s0 true)
noncomputable def purs : List (Nat × (List Ty × (List AV → PV))) := []
noncomputable def callF (g : FuncId) : CF := fun _ _ _ => False
noncomputable def L2 : K → Nat → St → Prop := mkL dec2 st2 0 0 [] Q2
noncomputable def loops : List (Nat × (List Nat × (K → Nat → St → Prop))) := [(2, (keep2, L2))]
noncomputable def C : Ctx := { ti := ti, meth := meth, can := can, pur := purOf purs, loops := fun i => seek loops i, gh := fun _ => [], xk := fun i => seek [(0, ([], 0))] i, rk := some ([4], 0) }
noncomputable def Round2 (x0 : (List Int)) (x1 : Int) (x5 : Int) (N : St → Prop) (X : Nat → St → Prop) (R : St → Prop) : Prop :=
  (bif decide (x5 < (↑x0.length : Int)) then (((0 : Int) ≤ x5) ∧ ((x5 < (↑x0.length : Int)) ∧ (bif x0.getD x5.toNat (0 : Int) == x1 then R (s0 (true)) else N (st2 (x0, x1, IntKind.i64.wrap (x5 + (1 : Int))))))) else X 0 (s1))
theorem round2 (x0 : (List Int)) (x1 : Int) (x5 : Int) (N : St → Prop) (X : Nat → St → Prop) (R : St → Prop) : exec C callF body2 ⟨0, [0], fun s' => cond (Nat.ble 0 s'.H.length) (N (scrub keep2 0 s')) False, X, R⟩ (st2 (x0, x1, x5)) = Round2 x0 x1 x5 N X R := by kernel_rfl
noncomputable def Main (l : (List Int)) (x : Int) (k : AV → Prop) : Prop :=
  (st2 (l, x, (0 : Int)) = st2 (l, x, (0 : Int)) ∧ (((0 : Int) ≤ (0 : Int)) ∧ (((0 : Int) ≤ (↑l.length : Int)) ∧ ((l.length ≤ LB) ∧ ((True) ∧ ((True) ∧ (bif l.all fun (y : Int) => !y == x then k (.v .bool (false)) else k (.v .bool (true)))))))))
theorem main (l : (List Int)) (x : Int) (k : AV → Prop) : (runFn C callF Try.f38 [.v (.sl (.int .i64)) l, .v (.int .i64) x] [] (fun r H => coRes H [.bool] r k)) = Main l x k := by kernel_rfl
theorem loop2 (v : V2) (X : Nat → St → Prop) (R : St → Prop) : Q2 v X R → ∃ m, loopN C callF keep2 0 body2 ⟨0, [], fun _ => False, X, R⟩ m (st2 v) := by
  refine loop_ind (fun v => Q2 v X R) (fun (x0, x1, x5) => x0.length - x5.toNat) ?_ v
  rintro ⟨x0, x1, x5⟩ ⟨h0, h1, h2, hn, hx, h4⟩ N hN
  rw [round2]
  obtain ⟨j, rfl⟩ : ∃ j : Nat, x5 = j := ⟨x5.toNat, by omega⟩
  dsimp only at hN
  rw [Int.toNat_natCast] at h4
  have h2' : x0.length ≤ 1073741824 := h2
  refine bif_d (fun hj => ?_) (fun hj => ?_)
  · have hjn : j < x0.length := by omega
    rw [drop_cons (l := x0) hjn 0, List.all_cons] at h4
    refine ⟨by omega, hj, ?_⟩
    rw [Int.toNat_natCast]
    cases hp : (fun y => !(y == x1)) (x0.getD j 0) with
    | false =>
      try dsimp only at hp
      rw [hp, Bool.false_and, cond_false] at h4
      exact bif_i (fun he => by first | exact h4 | (exfalso; rw [he] at hp; cases hp) | (exfalso; rw [hp] at he; cases he) | exact absurd he (by decide)) (fun he => by first | exact h4 | (exfalso; rw [he] at hp; cases hp) | (exfalso; rw [hp] at he; cases he) | exact absurd he (by decide))
    | true =>
      try dsimp only at hp
      rw [hp, Bool.true_and] at h4
      have hN' : N (st2 (x0, x1, ((j + 1 : Nat) : Int))) := hN _ ⟨by omega, by omega, h2, hn, hx, by rw [Int.toNat_natCast]; exact h4⟩ (by dsimp only; omega)
      rw [w64n (by omega)]
      exact bif_i (fun he => by first | exact hN' | (exfalso; rw [he] at hp; cases hp) | (exfalso; rw [hp] at he; cases he) | exact absurd he (by decide)) (fun he => by first | exact hN' | (exfalso; rw [he] at hp; cases hp) | (exfalso; rw [hp] at he; cases he) | exact absurd he (by decide))
  · rw [List.drop_eq_nil_of_le (by omega)] at h4
    exact h4
theorem spec (l : List Int) (x : Int) (k : AV → Prop) (h : AllP [l.length ≤ LB]) (hk : k (.v .bool (l.any (· == x)))) : Main l x k := by
  refine ⟨rfl, by omega, by omega, h.1, trivial, trivial, ?_⟩
  show bif (l.all fun y => !(y == x)) then k _ else k _
  have e0 : (l.all fun y => !(y == x)) = !(l.any (· == x)) := by rw [List.not_any_eq_all_not]
  rw [e0]
  cases e : l.any (· == x) <;> (rw [e] at hk; exact hk)
noncomputable def ts : List Ty := [(.sl (.int .i64)), (.int .i64)]
noncomputable def G : List AV → PV := pg2 (.sl (.int .i64)) (.int .i64) (fun l x => [l.length ≤ LB]) (fun l x => .v .bool (l.any (· == x)))
theorem loopsOK : LoopsOK C callF (bodyOf Try.f38) := loopsOK_seek (tbl := loops) (fun _ => rfl) (by kernel_rfl) (List.forall_mem_cons.2 ⟨mkL_ok loop2, fun _ h => nomatch h⟩)
theorem pursOK : ∀ g ts F, C.pur g = some (ts, F) → SoundP Try.prog g F := purOf_ok (l := purs) (fun _ h => nomatch h)
theorem cfsOK : ∀ g, SoundF Try.prog g (callF g) := fun g => soundF_none g
theorem ok : SoundP Try.prog 38 G := by
  unfold G
  refine soundP_pg2 (soundF_run (C := C) (callF := callF) (tabOK C rfl rfl rfl) cfsOK pursOK Try.func38 (by kernel_rfl) loopsOK) [.bool] fun l x h => ?_
  rw [main]
  exact spec l x _ h rfl
end F38
namespace F13
abbrev V4 := (List D30) × (List D30) × Int
noncomputable def st4 (v : V4) : St := ⟨[.v (.sl T30) (v.1), .v (.sl T30) (v.2.1), .dead, .dead, .dead, .v (.int .i64) (v.2.2), .dead, .dead, .dead, .dead, .dead, .dead, .dead, .dead, .dead, .dead, .dead, .dead, .dead, .dead, .dead, .dead, .dead, .dead, .dead, .dead, .dead, .dead, .dead, .dead, .dead, .dead, .dead, .dead, .dead, .dead, .dead, .dead, .dead, .dead, .dead, .dead, .dead, .dead, .dead, .dead, .dead, .dead, .dead, .dead, .dead, .dead, .dead, .dead, .dead, .dead, .dead, .dead, .dead, .dead, .dead, .dead, .dead, .dead, .dead, .dead, .dead, .dead, .dead, .dead, .dead, .dead, .dead, .dead, .dead, .dead, .dead, .dead, .dead, .dead, .dead, .dead, .dead, .dead, .dead, .dead, .dead, .dead, .dead, .dead, .dead, .dead, .dead, .dead, .dead, .dead, .dead, .dead, .dead, .dead, .dead, .dead, .dead, .dead, .dead, .dead, .dead, .dead, .dead, .dead, .dead, .dead, .dead], []⟩
noncomputable def dec4 (s : St) : Option V4 := match gV (.sl T30) (s.T.getD 0 .dead), gV (.sl T30) (s.T.getD 1 .dead), gV (.int .i64) (s.T.getD 5 .dead) with | some a0, some a1, some a5 => some (a0, a1, a5) | _, _, _ => none
noncomputable def keep4 : List Nat := [0, 1, 5]
noncomputable def body4 : Code := bodyAt (loopsOf (bodyOf Try.f13)) 4
noncomputable def s0 (x4 : Bool) : St := ⟨[.dead, .dead, .dead, .dead, .v .bool x4, .dead, .dead, .dead, .dead, .dead, .dead, .dead, .dead, .dead, .dead, .dead, .dead, .dead, .dead, .dead, .dead, .dead, .dead, .dead, .dead, .dead, .dead, .dead, .dead, .dead, .dead, .dead, .dead, .dead, .dead, .dead, .dead, .dead, .dead, .dead, .dead, .dead, .dead, .dead, .dead, .dead, .dead, .dead, .dead, .dead, .dead, .dead, .dead, .dead, .dead, .dead, .dead, .dead, .dead, .dead, .dead, .dead, .dead, .dead, .dead, .dead, .dead, .dead, .dead, .dead, .dead, .dead, .dead, .dead, .dead, .dead, .dead, .dead, .dead, .dead, .dead, .dead, .dead, .dead, .dead, .dead, .dead, .dead, .dead, .dead, .dead, .dead, .dead, .dead, .dead, .dead, .dead, .dead, .dead, .dead, .dead, .dead, .dead, .dead, .dead, .dead, .dead, .dead, .dead, .dead, .dead, .dead, .dead], []⟩
noncomputable def s1 : St := ⟨[.dead, .dead, .dead, .dead, .dead, .dead, .dead, .dead, .dead, .dead, .dead, .dead, .dead, .dead, .dead, .dead, .dead, .dead, .dead, .dead, .dead, .dead, .dead, .dead, .dead, .dead, .dead, .dead, .dead, .dead, .dead, .dead, .dead, .dead, .dead, .dead, .dead, .dead, .dead, .dead, .dead, .dead, .dead, .dead, .dead, .dead, .dead, .dead, .dead, .dead, .dead, .dead, .dead, .dead, .dead, .dead, .dead, .dead, .dead, .dead, .dead, .dead, .dead, .dead, .dead, .dead, .dead, .dead, .dead, .dead, .dead, .dead, .dead, .dead, .dead, .dead, .dead, .dead, .dead, .dead, .dead, .dead, .dead, .dead, .dead, .dead, .dead, .dead, .dead, .dead, .dead, .dead, .dead, .dead, .dead, .dead, .dead, .dead, .dead, .dead, .dead, .dead, .dead, .dead, .dead, .dead, .dead, .dead, .dead, .dead, .dead, .dead, .dead], []⟩
def Q4 : V4 → (Nat → St → Prop) → (St → Prop) → Prop := fun (a, b, i) X R => 0 ≤ i ∧ i ≤ a.length ∧ a.length ≤ LB ∧ a = b ∧ (∀ c ∈ a, F9.LC c) ∧ X 0 s1
noncomputable def purs : List (Nat × (List Ty × (List AV → PV))) := [(12, (Go.Proofs.Ytdjdbjcapenjeaa.A.F12.ts, Go.Proofs.Ytdjdbjcapenjeaa.A.F12.G))]
noncomputable def callF (g : FuncId) : CF := fun _ _ _ => False
noncomputable def L4 : K → Nat → St → Prop := mkL dec4 st4 0 0 [] Q4
noncomputable def loops : List (Nat × (List Nat × (K → Nat → St → Prop))) := [(4, (keep4, L4))]
noncomputable def C : Ctx := { ti := ti, meth := meth, can := can, pur := purOf purs, loops := fun i => seek loops i, gh := fun _ => [], xk := fun i => seek [(0, ([], 0))] i, rk := some ([4], 0) }
noncomputable def Round4 (x0 : (List D30)) (x1 : (List D30)) (x5 : Int) (N : St → Prop) (X : Nat → St → Prop) (R : St → Prop) : Prop :=
  (bif decide (x5 < (↑x0.length : Int)) then (((0 : Int) ≤ x5) ∧ ((x5 < (↑x0.length : Int)) ∧ (((0 : Int) ≤ x5) ∧ ((x5 < (↑x1.length : Int)) ∧ (bif (x0.getD x5.toNat d30).fst != (x1.getD x5.toNat d30).fst then R (s0 (false)) else (bif (x0.getD x5.toNat d30).snd.fst != (x1.getD x5.toNat d30).snd.fst then R (s0 (false)) else (bif (x0.getD x5.toNat d30).snd.snd.snd.fst != (x1.getD x5.toNat d30).snd.snd.snd.fst then R (s0 (false)) else (bif (x0.getD x5.toNat d30).snd.snd.snd.snd.snd.fst != (x1.getD x5.toNat d30).snd.snd.snd.snd.snd.fst then R (s0 (false)) else (bif (x0.getD x5.toNat d30).snd.snd.snd.snd.snd.snd.fst != (x1.getD x5.toNat d30).snd.snd.snd.snd.snd.snd.fst then R (s0 (false)) else ((List.length (x0.getD x5.toNat d30).snd.snd.snd.snd.fst ≤ LB) ∧ (bif !A.F12.val (x0.getD x5.toNat d30).snd.snd.snd.snd.fst (x1.getD x5.toNat d30).snd.snd.snd.snd.fst then R (s0 (false)) else (bif (x0.getD x5.toNat d30).snd.snd.fst.fst != (x1.getD x5.toNat d30).snd.snd.fst.fst then R (s0 (false)) else (bif (x0.getD x5.toNat d30).snd.snd.fst.snd.fst != (x1.getD x5.toNat d30).snd.snd.fst.snd.fst then R (s0 (false)) else (bif !(x0.getD x5.toNat d30).snd.snd.fst.snd.snd.snd.snd.snd.fst == (x1.getD x5.toNat d30).snd.snd.fst.snd.snd.snd.snd.snd.fst then R (s0 (false)) else ((List.length (x0.getD x5.toNat d30).snd.snd.fst.snd.snd.snd.fst ≤ LB) ∧ (bif !A.F12.val (x0.getD x5.toNat d30).snd.snd.fst.snd.snd.snd.fst (x1.getD x5.toNat d30).snd.snd.fst.snd.snd.snd.fst then R (s0 (false)) else ((List.length (x0.getD x5.toNat d30).snd.snd.fst.snd.snd.snd.snd.fst ≤ LB) ∧ (bif !A.F12.val (x0.getD x5.toNat d30).snd.snd.fst.snd.snd.snd.snd.fst (x1.getD x5.toNat d30).snd.snd.fst.snd.snd.snd.snd.fst then R (s0 (false)) else N (st4 (x0, x1, IntKind.i64.wrap (x5 + (1 : Int)))))))))))))))))))))) else X 0 (s1))
theorem round4 (x0 : (List D30)) (x1 : (List D30)) (x5 : Int) (N : St → Prop) (X : Nat → St → Prop) (R : St → Prop) : exec C callF body4 ⟨0, [0], fun s' => cond (Nat.ble 0 s'.H.length) (N (scrub keep4 0 s')) False, X, R⟩ (st4 (x0, x1, x5)) = Round4 x0 x1 x5 N X R := by kernel_rfl
noncomputable def Main (a : (List D30)) (b : (List D30)) (k : AV → Prop) : Prop :=
  (bif (↑a.length : Int) != (↑b.length : Int) then k (.v .bool (false)) else (st4 (a, b, (0 : Int)) = st4 (a, b, (0 : Int)) ∧ (((0 : Int) ≤ (0 : Int)) ∧ (((0 : Int) ≤ (↑a.length : Int)) ∧ ((a.length ≤ LB) ∧ ((a = b) ∧ ((∀ (c : D30), c ∈ a → F9.LC c) ∧ k (.v .bool (true)))))))))
theorem main (a : (List D30)) (b : (List D30)) (k : AV → Prop) : (runFn C callF Try.f13 [.v (.sl (.pair (.int .u8) (.pair (.int .u64) (.pair (.pair (.int .u8) (.pair (.int .u64) (.pair (.int .u64) (.pair (.sl (.int .u8)) (.pair (.sl (.int .u8)) (.pair .bool (.pair (.int .u8) .unit))))))) (.pair (.int .u8) (.pair (.sl (.int .u8)) (.pair (.int .i64) (.pair (.int .i64) .unit)))))))) a, .v (.sl (.pair (.int .u8) (.pair (.int .u64) (.pair (.pair (.int .u8) (.pair (.int .u64) (.pair (.int .u64) (.pair (.sl (.int .u8)) (.pair (.sl (.int .u8)) (.pair .bool (.pair (.int .u8) .unit))))))) (.pair (.int .u8) (.pair (.sl (.int .u8)) (.pair (.int .i64) (.pair (.int .i64) .unit)))))))) b] [] (fun r H => coRes H [.bool] r k)) = Main a b k := by kernel_rfl
theorem loop4 (v : V4) (X : Nat → St → Prop) (R : St → Prop) : Q4 v X R → ∃ m, loopN C callF keep4 0 body4 ⟨0, [], fun _ => False, X, R⟩ m (st4 v) := by
  refine loop_ind (fun v => Q4 v X R) (fun v => v.1.length - v.2.2.toNat) ?_ v
  rintro ⟨a, b, i⟩ ⟨h0, h1, h2, rfl, h4, h5⟩ N hN
  rw [round4]
  obtain ⟨j, rfl⟩ : ∃ j : Nat, i = j := ⟨i.toNat, by omega⟩
  dsimp only at hN
  have h2' : a.length ≤ 1073741824 := h2
  refine bif_d (fun hj => ?_) (fun hj => h5)
  have hn : j < a.length := by omega
  obtain ⟨g1, g2, g3⟩ := h4 _ (F9.getD_mem hn d30)
  have hN' : N (st4 (a, a, ((j + 1 : Nat) : Int))) := hN _ ⟨by omega, by omega, h2, rfl, h4, h5⟩ (by dsimp only; omega)
  rw [w64n (by omega)]
  rw [Int.toNat_natCast]
  have hs : ∀ x : List Int, (!A.F12.val x x) = false := fun x => by simp [A.F12.val]
  refine ⟨by omega, by omega, by omega, by omega, ?_⟩
  repeat (first | exact hN' | refine bif_f (by first | exact hs _ | simp) ?_ | refine ⟨by assumption, ?_⟩)
theorem spec (a b : List D30) (k : AV → Prop) (h : AllP [a = b, a.length ≤ LB, ∀ c ∈ a, F9.LC c]) (hk : k (.v .bool true)) : Main a b k := by
  obtain ⟨rfl, h1, h2, _⟩ := h
  exact bif_f (by simp) ⟨rfl, by omega, by omega, h1, rfl, h2, hk⟩
noncomputable def ts : List Ty := [(.sl T30), (.sl T30)]
noncomputable def G : List AV → PV := pg2 (.sl T30) (.sl T30) (fun a b => [a = b, a.length ≤ LB, ∀ c ∈ a, F9.LC c]) (fun a b => .v .bool true)
theorem loopsOK : LoopsOK C callF (bodyOf Try.f13) := loopsOK_seek (tbl := loops) (fun _ => rfl) (by kernel_rfl) (List.forall_mem_cons.2 ⟨mkL_ok loop4, fun _ h => nomatch h⟩)
theorem pursOK : ∀ g ts F, C.pur g = some (ts, F) → SoundP Try.prog g F := purOf_ok (l := purs) (List.forall_mem_cons.2 ⟨Go.Proofs.Ytdjdbjcapenjeaa.A.F12.ok, fun _ h => nomatch h⟩)
theorem cfsOK : ∀ g, SoundF Try.prog g (callF g) := fun g => soundF_none g
theorem ok : SoundP Try.prog 13 G := by
  unfold G
  refine soundP_pg2 (soundF_run (C := C) (callF := callF) (tabOK C rfl rfl rfl) cfsOK pursOK Try.func13 (by kernel_rfl) loopsOK) [.bool] fun a b h => ?_
  rw [main]
  exact spec a b _ h rfl
end F13

end Go.Proofs.Ytdjdbjcapenjeaa.C
