/- small functions -/
import Derived.Test.YtdjdbjcapenjeaaDxTab
import Derived.Test.YtdjdbjcapenjeaaDx3
import Derived.Test.YtdjdbjcapenjeaaDxTy
set_option linter.unusedVariables false
set_option maxRecDepth 100000
open Go Go.Proofs Go.Proofs.Ytdjdbjcapenjeaa.Dx Go.Proofs.Ytdjdbjcapenjeaa.Dx.TYtdjdbjcapenjeaa
namespace Go.Proofs.Ytdjdbjcapenjeaa.A
namespace F12
abbrev V4 := (List Int) × (List Int) × Int
noncomputable def st4 (v : V4) : St := ⟨[.v (.sl (.int .u8)) (v.1), .v (.sl (.int .u8)) (v.2.1), .dead, .dead, .dead, .v (.int .i64) (v.2.2), .dead, .dead, .dead, .dead, .dead, .dead, .dead, .dead, .dead, .dead, .dead, .dead, .dead, .dead, .dead, .dead, .dead, .dead, .dead, .dead], []⟩
noncomputable def dec4 (s : St) : Option V4 := match gV (.sl (.int .u8)) (s.T.getD 0 .dead), gV (.sl (.int .u8)) (s.T.getD 1 .dead), gV (.int .i64) (s.T.getD 5 .dead) with | some a0, some a1, some a5 => some (a0, a1, a5) | _, _, _ => none
noncomputable def keep4 : List Nat := [0, 1, 5]
noncomputable def body4 : Code := bodyAt (loopsOf (bodyOf Try.f12)) 4
noncomputable def s0 (x4 : Bool) : St := ⟨[.dead, .dead, .dead, .dead, .v .bool x4, .dead, .dead, .dead, .dead, .dead, .dead, .dead, .dead, .dead, .dead, .dead, .dead, .dead, .dead, .dead, .dead, .dead, .dead, .dead, .dead, .dead], []⟩
noncomputable def s1 : St := ⟨[.dead, .dead, .dead, .dead, .dead, .dead, .dead, .dead, .dead, .dead, .dead, .dead, .dead, .dead, .dead, .dead, .dead, .dead, .dead, .dead, .dead, .dead, .dead, .dead, .dead, .dead], []⟩
def val (a b : List Int) : Bool := decide (a = b)
def Q4 : V4 → (Nat → St → Prop) → (St → Prop) → Prop := fun (a, b, i) X R => 0 ≤ i ∧ i ≤ a.length ∧ a.length = b.length ∧ a.length ≤ LB ∧ bif decide (a.drop i.toNat = b.drop i.toNat) then X 0 s1 else R (s0 false)
noncomputable def purs : List (Nat × (List Ty × (List AV → PV))) := []
noncomputable def callF (g : FuncId) : CF := fun _ _ _ => False
noncomputable def L4 : K → Nat → St → Prop := mkL dec4 st4 0 0 [] Q4
noncomputable def loops : List (Nat × (List Nat × (K → Nat → St → Prop))) := [(4, (keep4, L4))]
noncomputable def C : Ctx := { ti := ti, meth := meth, can := can, pur := purOf purs, loops := fun i => seek loops i, gh := fun _ => [], xk := fun i => seek [(0, ([], 0))] i, rk := some ([4], 0) }
noncomputable def Round4 (x0 : (List Int)) (x1 : (List Int)) (x5 : Int) (N : St → Prop) (X : Nat → St → Prop) (R : St → Prop) : Prop :=
  (bif decide (x5 < (↑x0.length : Int)) then (((0 : Int) ≤ x5) ∧ ((x5 < (↑x0.length : Int)) ∧ (((0 : Int) ≤ x5) ∧ ((x5 < (↑x1.length : Int)) ∧ (bif x0.getD x5.toNat (0 : Int) != x1.getD x5.toNat (0 : Int) then R (s0 (false)) else N (st4 (x0, x1, IntKind.i64.wrap (x5 + (1 : Int))))))))) else X 0 (s1))
theorem round4 (x0 : (List Int)) (x1 : (List Int)) (x5 : Int) (N : St → Prop) (X : Nat → St → Prop) (R : St → Prop) : exec C callF body4 ⟨0, [0], fun s' => cond (Nat.ble 0 s'.H.length) (N (scrub keep4 0 s')) False, X, R⟩ (st4 (x0, x1, x5)) = Round4 x0 x1 x5 N X R := by kernel_rfl
noncomputable def Main (a : (List Int)) (b : (List Int)) (k : AV → Prop) : Prop :=
  (bif (↑a.length : Int) != (↑b.length : Int) then k (.v .bool (false)) else (st4 (a, b, (0 : Int)) = st4 (a, b, (0 : Int)) ∧ (((0 : Int) ≤ (0 : Int)) ∧ (((0 : Int) ≤ (↑a.length : Int)) ∧ ((a.length = b.length) ∧ ((a.length ≤ LB) ∧ (bif decide (a = b) then k (.v .bool (true)) else k (.v .bool (false)))))))))
theorem main (a : (List Int)) (b : (List Int)) (k : AV → Prop) : (runFn C callF Try.f12 [.v (.sl (.int .u8)) a, .v (.sl (.int .u8)) b] [] (fun r H => coRes H [.bool] r k)) = Main a b k := by kernel_rfl
theorem loop4 (v : V4) (X : Nat → St → Prop) (R : St → Prop) : Q4 v X R → ∃ m, loopN C callF keep4 0 body4 ⟨0, [], fun _ => False, X, R⟩ m (st4 v) := by
  refine loop_ind (fun v => Q4 v X R) (fun v => v.1.length - v.2.2.toNat) ?_ v
  rintro ⟨a, b, i⟩ ⟨h0, h1, h2, h3, h4⟩ N hN
  rw [round4]
  obtain ⟨j, rfl⟩ : ∃ j : Nat, i = j := ⟨i.toNat, by omega⟩
  dsimp only at hN
  rw [Int.toNat_natCast] at h4
  have h3' : a.length ≤ 1073741824 := h3
  refine bif_d (fun hj => ⟨by omega, hj, by omega, by omega, ?_⟩) (fun hj => ?_)
  · rw [drop_cons (l := a) (by omega) 0, drop_cons (l := b) (by omega) 0] at h4
    rw [Int.toNat_natCast]
    refine bif_ne (fun hne => ?_) (fun he => ?_)
    · rwa [decide_eq_false (fun h => hne (List.cons.inj h).1)] at h4
    · rw [w64n (by omega)]
      refine hN _ ⟨by omega, by omega, h2, h3, ?_⟩ (by dsimp only; omega)
      rw [Int.toNat_natCast]
      by_cases hd : a.drop (j + 1) = b.drop (j + 1)
      · rw [decide_eq_true (by rw [hd, he])] at h4
        rwa [decide_eq_true hd]
      · rw [decide_eq_false (fun h => hd (List.cons.inj h).2)] at h4
        rwa [decide_eq_false hd]
  · rw [List.drop_eq_nil_of_le (by omega), List.drop_eq_nil_of_le (by omega)] at h4
    exact h4
theorem spec (a b : List Int) (k : AV → Prop) (h : AllP [a.length ≤ LB]) (hk : k (.v .bool (val a b))) : Main a b k := by
  unfold Main
  unfold val at hk
  refine bif_ne (fun hne => ?_) (fun he => ⟨rfl, by omega, by omega, by omega, h.1, ?_⟩)
  · rwa [decide_eq_false (fun e => hne (by rw [e]))] at hk
  · by_cases hd : a = b
    · rw [decide_eq_true hd] at hk
      exact bif_d (fun _ => hk) (fun hn => absurd (by rw [hd]) hn)
    · rw [decide_eq_false hd] at hk
      exact bif_d (fun hn => absurd hn hd) (fun _ => hk)
noncomputable def ts : List Ty := [(.sl (.int .u8)), (.sl (.int .u8))]
noncomputable def G : List AV → PV := pg2 (.sl (.int .u8)) (.sl (.int .u8)) (fun a b => [a.length ≤ LB]) (fun a b => .v .bool (val a b))
theorem loopsOK : LoopsOK C callF (bodyOf Try.f12) := loopsOK_seek (tbl := loops) (fun _ => rfl) (by kernel_rfl) (List.forall_mem_cons.2 ⟨mkL_ok loop4, fun _ h => nomatch h⟩)
theorem pursOK : ∀ g ts F, C.pur g = some (ts, F) → SoundP Try.prog g F := purOf_ok (l := purs) (fun _ h => nomatch h)
theorem cfsOK : ∀ g, SoundF Try.prog g (callF g) := fun g => soundF_none g
theorem ok : SoundP Try.prog 12 G := by
  unfold G
  refine soundP_pg2 (soundF_run (C := C) (callF := callF) (tabOK C rfl rfl rfl) cfsOK pursOK Try.func12 (by kernel_rfl) loopsOK) [.bool] fun a b h => ?_
  rw [main]
  exact spec a b _ h rfl
end F12
namespace F28
noncomputable def purs : List (Nat × (List Ty × (List AV → PV))) := []
noncomputable def callF (g : FuncId) : CF := fun _ _ _ => False
noncomputable def loops : List (Nat × (List Nat × (K → Nat → St → Prop))) := []
noncomputable def C : Ctx := { ti := ti, meth := meth, can := can, pur := purOf purs, loops := fun i => seek loops i, gh := fun _ => [], rk := some ([2], 0) }
noncomputable def Main (c : D30) (k : AV → Prop) : Prop :=
  k (.v .bool (c.snd.snd.fst.fst == (5 : Int)))
theorem main (c : D30) (k : AV → Prop) : (runFn C callF Try.f28 [.v (.pair (.int .u8) (.pair (.int .u64) (.pair (.pair (.int .u8) (.pair (.int .u64) (.pair (.int .u64) (.pair (.sl (.int .u8)) (.pair (.sl (.int .u8)) (.pair .bool (.pair (.int .u8) .unit))))))) (.pair (.int .u8) (.pair (.sl (.int .u8)) (.pair (.int .i64) (.pair (.int .i64) .unit))))))) c] [] (fun r H => coRes H [.bool] r k)) = Main c k := by kernel_rfl
def val (c : D30) : Bool :=
  (c.snd.snd.fst.fst == (5 : Int))
def valAV (x : Bool) : AV := .v .bool x
theorem spec (c : D30) (k : AV → Prop) (_ : AllP []) (hk : k (.v .bool (val c))) : Main c k := (show (fun x => k (valAV x)) (val c) → Main c k from ((fun _ h => h) : True → (fun x => k (valAV x)) (val c) → Main c k) trivial) hk
noncomputable def ts : List Ty := [T30]
noncomputable def G : List AV → PV := pg1 T30 (fun c => []) (fun c => .v .bool (val c))
theorem loopsOK : LoopsOK C callF (bodyOf Try.f28) := loopsOK_seek (tbl := loops) (fun _ => rfl) (by kernel_rfl) (fun _ h => nomatch h)
theorem pursOK : ∀ g ts F, C.pur g = some (ts, F) → SoundP Try.prog g F := purOf_ok (l := purs) (fun _ h => nomatch h)
theorem cfsOK : ∀ g, SoundF Try.prog g (callF g) := fun g => soundF_none g
theorem ok : SoundP Try.prog 28 G := by
  unfold G
  refine soundP_pg1 (soundF_run (C := C) (callF := callF) (tabOK C rfl rfl rfl) cfsOK pursOK Try.func28 (by kernel_rfl) loopsOK) [.bool] fun c h => ?_
  rw [main]
  exact spec c _ h rfl
end F28
namespace F41
noncomputable def purs : List (Nat × (List Ty × (List AV → PV))) := []
noncomputable def callF (g : FuncId) : CF := fun _ _ _ => False
noncomputable def loops : List (Nat × (List Nat × (K → Nat → St → Prop))) := []
noncomputable def C : Ctx := { ti := ti, meth := meth, can := can, pur := purOf purs, loops := fun i => seek loops i, gh := fun _ => [], rk := some ([2], 0) }
noncomputable def Main (c : D30) (k : AV → Prop) : Prop :=
  k (.v .bool (c.snd.snd.snd.snd.snd.snd.fst != (-1 : Int)))
theorem main (c : D30) (k : AV → Prop) : (runFn C callF Try.f41 [.v (.pair (.int .u8) (.pair (.int .u64) (.pair (.pair (.int .u8) (.pair (.int .u64) (.pair (.int .u64) (.pair (.sl (.int .u8)) (.pair (.sl (.int .u8)) (.pair .bool (.pair (.int .u8) .unit))))))) (.pair (.int .u8) (.pair (.sl (.int .u8)) (.pair (.int .i64) (.pair (.int .i64) .unit))))))) c] [] (fun r H => coRes H [.bool] r k)) = Main c k := by kernel_rfl
def val (c : D30) : Bool :=
  (c.snd.snd.snd.snd.snd.snd.fst != (-1 : Int))
def valAV (x : Bool) : AV := .v .bool x
theorem spec (c : D30) (k : AV → Prop) (_ : AllP []) (hk : k (.v .bool (val c))) : Main c k := (show (fun x => k (valAV x)) (val c) → Main c k from ((fun _ h => h) : True → (fun x => k (valAV x)) (val c) → Main c k) trivial) hk
noncomputable def ts : List Ty := [T30]
noncomputable def G : List AV → PV := pg1 T30 (fun c => []) (fun c => .v .bool (val c))
theorem loopsOK : LoopsOK C callF (bodyOf Try.f41) := loopsOK_seek (tbl := loops) (fun _ => rfl) (by kernel_rfl) (fun _ h => nomatch h)
theorem pursOK : ∀ g ts F, C.pur g = some (ts, F) → SoundP Try.prog g F := purOf_ok (l := purs) (fun _ h => nomatch h)
theorem cfsOK : ∀ g, SoundF Try.prog g (callF g) := fun g => soundF_none g
theorem ok : SoundP Try.prog 41 G := by
  unfold G
  refine soundP_pg1 (soundF_run (C := C) (callF := callF) (tabOK C rfl rfl rfl) cfsOK pursOK Try.func41 (by kernel_rfl) loopsOK) [.bool] fun c h => ?_
  rw [main]
  exact spec c _ h rfl
end F41
namespace F45
noncomputable def purs : List (Nat × (List Ty × (List AV → PV))) := []
noncomputable def callF (g : FuncId) : CF := fun _ _ _ => False
noncomputable def loops : List (Nat × (List Nat × (K → Nat → St → Prop))) := []
noncomputable def C : Ctx := { ti := ti, meth := meth, can := can, pur := purOf purs, loops := fun i => seek loops i, gh := fun _ => [], rk := some ([2], 0) }
noncomputable def Main (c : D30) (k : AV → Prop) : Prop :=
  k (.v .bool (c.snd.snd.snd.snd.snd.snd.fst != (-1 : Int)))
theorem main (c : D30) (k : AV → Prop) : (runFn C callF Try.f45 [.v (.pair (.int .u8) (.pair (.int .u64) (.pair (.pair (.int .u8) (.pair (.int .u64) (.pair (.int .u64) (.pair (.sl (.int .u8)) (.pair (.sl (.int .u8)) (.pair .bool (.pair (.int .u8) .unit))))))) (.pair (.int .u8) (.pair (.sl (.int .u8)) (.pair (.int .i64) (.pair (.int .i64) .unit))))))) c] [] (fun r H => coRes H [.bool] r k)) = Main c k := by kernel_rfl
def val (c : D30) : Bool :=
  (c.snd.snd.snd.snd.snd.snd.fst != (-1 : Int))
def valAV (x : Bool) : AV := .v .bool x
theorem spec (c : D30) (k : AV → Prop) (_ : AllP []) (hk : k (.v .bool (val c))) : Main c k := (show (fun x => k (valAV x)) (val c) → Main c k from ((fun _ h => h) : True → (fun x => k (valAV x)) (val c) → Main c k) trivial) hk
noncomputable def ts : List Ty := [T30]
noncomputable def G : List AV → PV := pg1 T30 (fun c => []) (fun c => .v .bool (val c))
theorem loopsOK : LoopsOK C callF (bodyOf Try.f45) := loopsOK_seek (tbl := loops) (fun _ => rfl) (by kernel_rfl) (fun _ h => nomatch h)
theorem pursOK : ∀ g ts F, C.pur g = some (ts, F) → SoundP Try.prog g F := purOf_ok (l := purs) (fun _ h => nomatch h)
theorem cfsOK : ∀ g, SoundF Try.prog g (callF g) := fun g => soundF_none g
theorem ok : SoundP Try.prog 45 G := by
  unfold G
  refine soundP_pg1 (soundF_run (C := C) (callF := callF) (tabOK C rfl rfl rfl) cfsOK pursOK Try.func45 (by kernel_rfl) loopsOK) [.bool] fun c h => ?_
  rw [main]
  exact spec c _ h rfl
end F45
namespace F42
noncomputable def purs : List (Nat × (List Ty × (List AV → PV))) := [(45, (Go.Proofs.Ytdjdbjcapenjeaa.A.F45.ts, Go.Proofs.Ytdjdbjcapenjeaa.A.F45.G))]
noncomputable def callF (g : FuncId) : CF := fun _ _ _ => False
noncomputable def loops : List (Nat × (List Nat × (K → Nat → St → Prop))) := []
noncomputable def C : Ctx := { ti := ti, meth := meth, can := can, pur := purOf purs, loops := fun i => seek loops i, gh := fun _ => [], rk := some ([4], 0) }
noncomputable def Main (a : D30) (b : D30) (k : AV → Prop) : Prop :=
  (bif F45.val a then k (.v .bool (decide (a.snd.snd.snd.snd.snd.snd.fst < b.snd.snd.snd.snd.snd.fst))) else k (.v .bool (false)))
theorem main (a : D30) (b : D30) (k : AV → Prop) : (runFn C callF Try.f42 [.v (.pair (.int .u8) (.pair (.int .u64) (.pair (.pair (.int .u8) (.pair (.int .u64) (.pair (.int .u64) (.pair (.sl (.int .u8)) (.pair (.sl (.int .u8)) (.pair .bool (.pair (.int .u8) .unit))))))) (.pair (.int .u8) (.pair (.sl (.int .u8)) (.pair (.int .i64) (.pair (.int .i64) .unit))))))) a, .v (.pair (.int .u8) (.pair (.int .u64) (.pair (.pair (.int .u8) (.pair (.int .u64) (.pair (.int .u64) (.pair (.sl (.int .u8)) (.pair (.sl (.int .u8)) (.pair .bool (.pair (.int .u8) .unit))))))) (.pair (.int .u8) (.pair (.sl (.int .u8)) (.pair (.int .i64) (.pair (.int .i64) .unit))))))) b] [] (fun r H => coRes H [.bool] r k)) = Main a b k := by kernel_rfl
def val (a : D30) (b : D30) : Bool :=
  (bif F45.val a then (decide (a.snd.snd.snd.snd.snd.snd.fst < b.snd.snd.snd.snd.snd.fst)) else (false))
def valAV (x : Bool) : AV := .v .bool x
theorem spec (a : D30) (b : D30) (k : AV → Prop) (_ : AllP []) (hk : k (.v .bool (val a b))) : Main a b k := (show (fun x => k (valAV x)) (val a b) → Main a b k from ((bif_pV (K := fun x => k (valAV x)) (fun _ h => h) (fun _ h => h)) : True → (fun x => k (valAV x)) (val a b) → Main a b k) trivial) hk
noncomputable def ts : List Ty := [T30, T30]
noncomputable def G : List AV → PV := pg2 T30 T30 (fun a b => []) (fun a b => .v .bool (val a b))
theorem loopsOK : LoopsOK C callF (bodyOf Try.f42) := loopsOK_seek (tbl := loops) (fun _ => rfl) (by kernel_rfl) (fun _ h => nomatch h)
theorem pursOK : ∀ g ts F, C.pur g = some (ts, F) → SoundP Try.prog g F := purOf_ok (l := purs) (List.forall_mem_cons.2 ⟨Go.Proofs.Ytdjdbjcapenjeaa.A.F45.ok, fun _ h => nomatch h⟩)
theorem cfsOK : ∀ g, SoundF Try.prog g (callF g) := fun g => soundF_none g
theorem ok : SoundP Try.prog 42 G := by
  unfold G
  refine soundP_pg2 (soundF_run (C := C) (callF := callF) (tabOK C rfl rfl rfl) cfsOK pursOK Try.func42 (by kernel_rfl) loopsOK) [.bool] fun a b h => ?_
  rw [main]
  exact spec a b _ h rfl
end F42
namespace F54
noncomputable def purs : List (Nat × (List Ty × (List AV → PV))) := [(41, (Go.Proofs.Ytdjdbjcapenjeaa.A.F41.ts, Go.Proofs.Ytdjdbjcapenjeaa.A.F41.G))]
noncomputable def callF (g : FuncId) : CF := fun _ _ _ => False
noncomputable def loops : List (Nat × (List Nat × (K → Nat → St → Prop))) := []
noncomputable def C : Ctx := { ti := ti, meth := meth, can := can, pur := purOf purs, loops := fun i => seek loops i, gh := fun _ => [], rk := some ([4], 0) }
noncomputable def Main (a : D30) (b : D30) (k : AV → Prop) : Prop :=
  (bif F41.val a then k (.v .bool (decide (a.snd.snd.snd.snd.snd.snd.fst < b.snd.snd.snd.snd.snd.fst))) else k (.v .bool (false)))
theorem main (a : D30) (b : D30) (k : AV → Prop) : (runFn C callF Try.f54 [.v (.ptr (.pair (.int .u8) (.pair (.int .u64) (.pair (.pair (.int .u8) (.pair (.int .u64) (.pair (.int .u64) (.pair (.sl (.int .u8)) (.pair (.sl (.int .u8)) (.pair .bool (.pair (.int .u8) .unit))))))) (.pair (.int .u8) (.pair (.sl (.int .u8)) (.pair (.int .i64) (.pair (.int .i64) .unit)))))))) a, .v (.ptr (.pair (.int .u8) (.pair (.int .u64) (.pair (.pair (.int .u8) (.pair (.int .u64) (.pair (.int .u64) (.pair (.sl (.int .u8)) (.pair (.sl (.int .u8)) (.pair .bool (.pair (.int .u8) .unit))))))) (.pair (.int .u8) (.pair (.sl (.int .u8)) (.pair (.int .i64) (.pair (.int .i64) .unit)))))))) b] [] (fun r H => coRes H [.bool] r k)) = Main a b k := by kernel_rfl
def val (a : D30) (b : D30) : Bool :=
  (bif F41.val a then (decide (a.snd.snd.snd.snd.snd.snd.fst < b.snd.snd.snd.snd.snd.fst)) else (false))
def valAV (x : Bool) : AV := .v .bool x
theorem spec (a : D30) (b : D30) (k : AV → Prop) (_ : AllP []) (hk : k (.v .bool (val a b))) : Main a b k := (show (fun x => k (valAV x)) (val a b) → Main a b k from ((bif_pV (K := fun x => k (valAV x)) (fun _ h => h) (fun _ h => h)) : True → (fun x => k (valAV x)) (val a b) → Main a b k) trivial) hk
noncomputable def ts : List Ty := [(.ptr T30), (.ptr T30)]
noncomputable def G : List AV → PV := pg2 (.ptr T30) (.ptr T30) (fun a b => []) (fun a b => .v .bool (val a b))
theorem loopsOK : LoopsOK C callF (bodyOf Try.f54) := loopsOK_seek (tbl := loops) (fun _ => rfl) (by kernel_rfl) (fun _ h => nomatch h)
theorem pursOK : ∀ g ts F, C.pur g = some (ts, F) → SoundP Try.prog g F := purOf_ok (l := purs) (List.forall_mem_cons.2 ⟨Go.Proofs.Ytdjdbjcapenjeaa.A.F41.ok, fun _ h => nomatch h⟩)
theorem cfsOK : ∀ g, SoundF Try.prog g (callF g) := fun g => soundF_none g
theorem ok : SoundP Try.prog 54 G := by
  unfold G
  refine soundP_pg2 (soundF_run (C := C) (callF := callF) (tabOK C rfl rfl rfl) cfsOK pursOK Try.func54 (by kernel_rfl) loopsOK) [.bool] fun a b h => ?_
  rw [main]
  exact spec a b _ h rfl
end F54
namespace F16
noncomputable def purs : List (Nat × (List Ty × (List AV → PV))) := []
noncomputable def callF (g : FuncId) : CF := fun _ _ _ => False
noncomputable def loops : List (Nat × (List Nat × (K → Nat → St → Prop))) := []
noncomputable def C : Ctx := { ti := ti, meth := meth, can := can, pur := purOf purs, loops := fun i => seek loops i, gh := fun _ => [], rk := some ([2], 0) }
noncomputable def Main (e : Int) (k : AV → Prop) : Prop :=
  k (.v (.int .i64) (e))
theorem main (e : Int) (k : AV → Prop) : (runFn C callF Try.f16 [.v (.int .i64) e] [] (fun r H => coRes H [(.int .i64)] r k)) = Main e k := by kernel_rfl
def val (e : Int) : Int :=
  (e)
def valAV (x : Int) : AV := .v (.int .i64) x
theorem spec (e : Int) (k : AV → Prop) (_ : AllP []) (hk : k (.v (.int .i64) (val e))) : Main e k := (show (fun x => k (valAV x)) (val e) → Main e k from ((fun _ h => h) : True → (fun x => k (valAV x)) (val e) → Main e k) trivial) hk
noncomputable def ts : List Ty := [(.int .i64)]
noncomputable def G : List AV → PV := pg1 (.int .i64) (fun e => []) (fun e => .v (.int .i64) (val e))
theorem loopsOK : LoopsOK C callF (bodyOf Try.f16) := loopsOK_seek (tbl := loops) (fun _ => rfl) (by kernel_rfl) (fun _ h => nomatch h)
theorem pursOK : ∀ g ts F, C.pur g = some (ts, F) → SoundP Try.prog g F := purOf_ok (l := purs) (fun _ h => nomatch h)
theorem cfsOK : ∀ g, SoundF Try.prog g (callF g) := fun g => soundF_none g
theorem ok : SoundP Try.prog 16 G := by
  unfold G
  refine soundP_pg1 (soundF_run (C := C) (callF := callF) (tabOK C rfl rfl rfl) cfsOK pursOK Try.func16 (by kernel_rfl) loopsOK) [(.int .i64)] fun e h => ?_
  rw [main]
  exact spec e _ h rfl
end F16

end Go.Proofs.Ytdjdbjcapenjeaa.A
