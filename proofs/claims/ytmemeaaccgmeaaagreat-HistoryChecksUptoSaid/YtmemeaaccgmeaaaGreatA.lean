/- history: copies and comparisons -/
import Derived.Test.YtmemeaaccgmeaaaGreatDxTab
import Derived.Test.YtmemeaaccgmeaaaGreatDx3
import Derived.Test.YtmemeaaccgmeaaaGreatDxTy
import Derived.Test.YtmemeaaccgmeaaaGreatW
set_option linter.unusedVariables false
set_option maxRecDepth 100000
open Go Go.Proofs Go.Proofs.YtmemeaaccgmeaaaGreat.Dx Go.Proofs.YtmemeaaccgmeaaaGreat.Dx.TYtmemeaaccgmeaaaGreat
namespace Go.Proofs.YtmemeaaccgmeaaaGreat.A
open W
namespace F15
noncomputable def purs : List (Nat × (List Ty × (List AV → PV))) := []
noncomputable def callF (g : FuncId) : CF := fun _ _ _ => False
noncomputable def loops : List (Nat × (List Nat × (K → Nat → St → Prop))) := []
noncomputable def C : Ctx := { ti := ti, meth := meth, can := can, pur := purOf purs, loops := fun i => seek loops i, gh := fun _ => [], rk := some ([2], 0) }
noncomputable def Main (e : Int) (k : AV → Prop) : Prop :=
  k (.v (.int .i64) (e))
theorem main (e : Int) (k : AV → Prop) : (runFn C callF Tryz.f15 [.v (.int .i64) e] [] (fun r H => coRes H [(.int .i64)] r k)) = Main e k := by kernel_rfl
def val (e : Int) : Int :=
  (e)
def valAV (x : Int) : AV := .v (.int .i64) x
theorem spec (e : Int) (k : AV → Prop) (_ : AllP []) (hk : k (.v (.int .i64) (val e))) : Main e k := (show (fun x => k (valAV x)) (val e) → Main e k from ((fun _ h => h) : True → (fun x => k (valAV x)) (val e) → Main e k) trivial) hk
noncomputable def ts : List Ty := [(.int .i64)]
noncomputable def G : List AV → PV := pg1 (.int .i64) (fun e => []) (fun e => .v (.int .i64) (val e))
theorem loopsOK : LoopsOK C callF (bodyOf Tryz.f15) := loopsOK_seek (tbl := loops) (fun _ => rfl) (by kernel_rfl) (fun _ h => nomatch h)
theorem pursOK : ∀ g ts F, C.pur g = some (ts, F) → SoundP Tryz.prog g F := purOf_ok (l := purs) (fun _ h => nomatch h)
theorem cfsOK : ∀ g, SoundF Tryz.prog g (callF g) := fun g => soundF_none g
theorem ok : SoundP Tryz.prog 15 G := by
  unfold G
  refine soundP_pg1 (soundF_run (C := C) (callF := callF) (tabOK C rfl rfl rfl) cfsOK pursOK Tryz.func15 (by kernel_rfl) loopsOK) [(.int .i64)] fun e h => ?_
  rw [main]
  exact spec e _ h rfl
end F15
namespace F44
abbrev V3 := (List Int) × Nat × Int × (List Int)
noncomputable def st3 (v : V3) : St := ⟨[.v (.sl (.int .u8)) (v.1), .dead, .dead, .v .ref (.sl 0 0 (v.2.1)), .v (.int .i64) (v.2.2.1), .dead, .dead, .dead, .dead, .dead, .dead, .dead, .dead, .dead, .dead, .dead, .dead, .dead, .dead], [.row (.int .u8) (v.2.2.2) 5]⟩
noncomputable def dec3 (s : St) : Option V3 := match gV (.sl (.int .u8)) (s.T.getD 0 .dead), gV .ref (s.T.getD 3 .dead), gV (.int .i64) (s.T.getD 4 .dead), gRow (.int .u8) s.H[0]? with | some a0, some a3, some a4, some b0 => some (a0, rN (a3), a4, b0) | _, _, _, _ => none
noncomputable def keep3 : List Nat := [0, 3, 4]
noncomputable def body3 : Code := bodyAt (loopsOf (bodyOf Tryz.f44)) 3
noncomputable def s0 (n3 : Nat) (h0 : (List Int)) : St := ⟨[.dead, .dead, .dead, .v .ref (.sl 0 0 n3), .dead, .dead, .dead, .dead, .dead, .dead, .dead, .dead, .dead, .dead, .dead, .dead, .dead, .dead, .dead], [.row (.int .u8) h0 5]⟩
def Q3 : V3 → (Nat → St → Prop) → (St → Prop) → Prop := fun (b, n, i, h) X R => 0 ≤ i ∧ i ≤ b.length ∧ b.length ≤ LB ∧ (n : Int) = i ∧ h = b.take n ∧ X 0 (s0 b.length b)
noncomputable def purs : List (Nat × (List Ty × (List AV → PV))) := []
noncomputable def callF (g : FuncId) : CF := fun _ _ _ => False
noncomputable def L3 : K → Nat → St → Prop := mkL dec3 st3 0 1 [] Q3
noncomputable def loops : List (Nat × (List Nat × (K → Nat → St → Prop))) := [(3, (keep3, L3))]
noncomputable def C : Ctx := { ti := ti, meth := meth, can := can, pur := purOf purs, loops := fun i => seek loops i, gh := fun _ => [], owns := fun i => seek [(3, ((.int .u8), 5))] i, xk := fun i => seek [(0, ([3], 0))] i, rk := some ([2], 1) }
noncomputable def Round3 (x0 : (List Int)) (n3 : Nat) (x4 : Int) (h0 : (List Int)) (N : St → Prop) (X : Nat → St → Prop) (R : St → Prop) : Prop :=
  (bif decide (x4 < (↑x0.length : Int)) then (((0 : Int) ≤ x4) ∧ ((x4 < (↑x0.length : Int)) ∧ ((n3 ≤ h0.length) ∧ ((n3 + (1 : Nat) ≤ (70368744177664 : Nat)) ∧ (((0 : Nat) + (1 : Nat) ≤ (1 : Nat)) ∧ N (st3 (x0, n3 + (1 : Nat), IntKind.i64.wrap (x4 + (1 : Int)), List.take n3 h0 ++ [x0.getD x4.toNat (0 : Int)]))))))) else X 0 (s0 (n3) (h0)))
theorem round3 (x0 : (List Int)) (n3 : Nat) (x4 : Int) (h0 : (List Int)) (N : St → Prop) (X : Nat → St → Prop) (R : St → Prop) : exec C callF body3 ⟨0, [1], fun s' => cond (Nat.ble 1 s'.H.length) (N (scrub keep3 1 s')) False, X, R⟩ (st3 (x0, n3, x4, h0)) = Round3 x0 n3 x4 h0 N X R := by kernel_rfl
noncomputable def Main (b : (List Int)) (k : AV → Prop) : Prop :=
  (st3 (b, (0 : Nat), (0 : Int), []) = st3 (b, (0 : Nat), (0 : Int), []) ∧ (((0 : Int) ≤ (0 : Int)) ∧ (((0 : Int) ≤ (↑b.length : Int)) ∧ ((b.length ≤ LB) ∧ (((↑(0 : Nat) : Int) = (0 : Int)) ∧ (([] = List.take (0 : Nat) b) ∧ (((0 : Nat) + b.length ≤ b.length) ∧ k (.v (.sl (.int .u8)) (List.take b.length b)))))))))
theorem main (b : (List Int)) (k : AV → Prop) : (runFn C callF Tryz.f44 [.v (.sl (.int .u8)) b] [] (fun r H => coRes H [(.sl (.int .u8))] r k)) = Main b k := by kernel_rfl
theorem loop3 (v : V3) (X : Nat → St → Prop) (R : St → Prop) : Q3 v X R → ∃ m, loopN C callF keep3 1 body3 ⟨0, [], fun _ => False, X, R⟩ m (st3 v) := by
  refine loop_ind (fun v => Q3 v X R) (fun (b, n, i, h) => b.length - n) ?_ v
  rintro ⟨b, n, i, h⟩ ⟨h0, h1, h2, rfl, rfl, h4⟩ N hN
  rw [round3]
  dsimp only at hN
  have h2' : b.length ≤ 1073741824 := h2
  refine bif_d (fun hj => ?_) (fun hj => ?_)
  · have hn : n < b.length := by omega
    have e : List.take n (List.take n b) ++ [b.getD n 0] = b.take (n + 1) := by rw [List.take_take, Nat.min_self, take_snoc hn 0]
    rw [Int.toNat_natCast, w64n (by omega), e]
    refine ⟨by omega, by omega, by simp; omega, by omega, by decide, ?_⟩
    exact hN (b, n + 1, ((n + 1 : Nat) : Int), b.take (n + 1)) ⟨by omega, by omega, h2, rfl, rfl, h4⟩ (by dsimp only; omega)
  · have : n = b.length := by omega
    subst this
    rw [List.take_length]
    exact h4
theorem spec (b : List Int) (k : AV → Prop) (h : AllP [b.length ≤ LB]) (hk : k (.v (.sl (.int .u8)) b)) : Main b k := by
  refine ⟨rfl, by omega, by omega, h.1, rfl, rfl, by omega, ?_⟩
  simpa using hk
noncomputable def ts : List Ty := [(.sl (.int .u8))]
noncomputable def G : List AV → PV := pg1 (.sl (.int .u8)) (fun b => [b.length ≤ LB]) (fun b => .v (.sl (.int .u8)) b)
theorem loopsOK : LoopsOK C callF (bodyOf Tryz.f44) := loopsOK_seek (tbl := loops) (fun _ => rfl) (by kernel_rfl) (List.forall_mem_cons.2 ⟨mkL_ok loop3, fun _ h => nomatch h⟩)
theorem pursOK : ∀ g ts F, C.pur g = some (ts, F) → SoundP Tryz.prog g F := purOf_ok (l := purs) (fun _ h => nomatch h)
theorem cfsOK : ∀ g, SoundF Tryz.prog g (callF g) := fun g => soundF_none g
theorem ok : SoundP Tryz.prog 44 G := by
  unfold G
  refine soundP_pg1 (soundF_run (C := C) (callF := callF) (tabOK C rfl rfl rfl) cfsOK pursOK Tryz.func44 (by kernel_rfl) loopsOK) [(.sl (.int .u8))] fun b h => ?_
  rw [main]
  exact spec b _ h rfl
end F44
namespace F43
noncomputable def purs : List (Nat × (List Ty × (List AV → PV))) := [(44, (Go.Proofs.YtmemeaaccgmeaaaGreat.A.F44.ts, Go.Proofs.YtmemeaaccgmeaaaGreat.A.F44.G))]
noncomputable def callF (g : FuncId) : CF := fun _ _ _ => False
noncomputable def loops : List (Nat × (List Nat × (K → Nat → St → Prop))) := []
noncomputable def C : Ctx := { ti := ti, meth := meth, can := can, pur := purOf purs, loops := fun i => seek loops i, gh := fun _ => [] }
noncomputable def Main (r : D52) (k : AV → Prop) : Prop :=
  ((List.length r.snd.snd.snd.fst ≤ LB) ∧ ((List.length r.snd.snd.snd.snd.fst ≤ LB) ∧ k (.v T52 ((r.fst), ((r.snd.fst), ((r.snd.snd.fst), ((r.snd.snd.snd.fst), ((r.snd.snd.snd.snd.fst), (r.snd.snd.snd.snd.snd)))))))))
theorem main (r : D52) (k : AV → Prop) : (runFn C callF Tryz.f43 [.v (.pair (.int .u8) (.pair (.int .u64) (.pair (.int .u64) (.pair (.sl (.int .u8)) (.pair (.sl (.int .u8)) (.pair .bool (.pair (.int .u8) .unit))))))) r] [] (fun r H => coRes H [(.pair (.int .u8) (.pair (.int .u64) (.pair (.int .u64) (.pair (.sl (.int .u8)) (.pair (.sl (.int .u8)) (.pair .bool (.pair (.int .u8) .unit)))))))] r k)) = Main r k := by kernel_rfl
def val (r : D52) : D52 :=
  ((r.fst), ((r.snd.fst), ((r.snd.snd.fst), ((r.snd.snd.snd.fst), ((r.snd.snd.snd.snd.fst), (r.snd.snd.snd.snd.snd))))))
def Pre (r : D52) : Prop :=
  ((List.length r.snd.snd.snd.fst ≤ LB) ∧ (List.length r.snd.snd.snd.snd.fst ≤ LB))
def valAV (x : D52) : AV := .v T52 x
theorem spec (r : D52) (k : AV → Prop) (h : AllP [Pre r]) (hk : k (.v T52 (val r))) : Main r k := ((and_p (K := fun x => k (valAV x)) (and_t (K := fun x => k (valAV x)) (fun _ h => h))) : Pre r → (fun x => k (valAV x)) (val r) → Main r k) h.1 hk
noncomputable def ts : List Ty := [T52]
noncomputable def G : List AV → PV := pg1 T52 (fun r => [Pre r]) (fun r => .v T52 (val r))
theorem loopsOK : LoopsOK C callF (bodyOf Tryz.f43) := loopsOK_seek (tbl := loops) (fun _ => rfl) (by kernel_rfl) (fun _ h => nomatch h)
theorem pursOK : ∀ g ts F, C.pur g = some (ts, F) → SoundP Tryz.prog g F := purOf_ok (l := purs) (List.forall_mem_cons.2 ⟨Go.Proofs.YtmemeaaccgmeaaaGreat.A.F44.ok, fun _ h => nomatch h⟩)
theorem cfsOK : ∀ g, SoundF Tryz.prog g (callF g) := fun g => soundF_none g
theorem ok : SoundP Tryz.prog 43 G := by
  unfold G
  refine soundP_pg1 (soundF_run (C := C) (callF := callF) (tabOK C rfl rfl rfl) cfsOK pursOK Tryz.func43 (by kernel_rfl) loopsOK) [T52] fun r h => ?_
  rw [main]
  exact spec r _ h rfl
end F43
namespace F11
abbrev V3 := (List D74) × Nat × Int × (List D74)
noncomputable def st3 (v : V3) : St := ⟨[.v (.sl T74) (v.1), .dead, .dead, .v .ref (.sl 0 0 (v.2.1)), .v (.int .i64) (v.2.2.1), .dead, .dead, .dead, .dead, .dead, .dead, .dead, .dead, .dead, .dead, .dead, .dead, .dead, .dead, .dead, .dead, .dead, .dead, .dead, .dead, .dead, .dead, .dead, .dead], [.row T74 (v.2.2.2) 74]⟩
noncomputable def dec3 (s : St) : Option V3 := match gV (.sl T74) (s.T.getD 0 .dead), gV .ref (s.T.getD 3 .dead), gV (.int .i64) (s.T.getD 4 .dead), gRow T74 s.H[0]? with | some a0, some a3, some a4, some b0 => some (a0, rN (a3), a4, b0) | _, _, _, _ => none
noncomputable def keep3 : List Nat := [0, 3, 4]
noncomputable def body3 : Code := bodyAt (loopsOf (bodyOf Tryz.f11)) 3
noncomputable def s0 (n3 : Nat) (h0 : (List D74)) : St := ⟨[.dead, .dead, .dead, .v .ref (.sl 0 0 n3), .dead, .dead, .dead, .dead, .dead, .dead, .dead, .dead, .dead, .dead, .dead, .dead, .dead, .dead, .dead, .dead, .dead, .dead, .dead, .dead, .dead, .dead, .dead, .dead, .dead], [.row T74 h0 74]⟩
/-- Its lists are not too long. -/
def LC (c : D74) : Prop := c.2.2.2.2.1.length ≤ LB ∧ c.2.2.1.2.2.2.1.length ≤ LB ∧ c.2.2.1.2.2.2.2.1.length ≤ LB
def Q3 : V3 → (Nat → St → Prop) → (St → Prop) → Prop := fun (cs, n, i, h) X R => 0 ≤ i ∧ i ≤ cs.length ∧ cs.length ≤ LB ∧ (n : Int) = i ∧ h = cs.take n ∧ (∀ c ∈ cs, LC c) ∧ X 0 (s0 cs.length cs)
noncomputable def purs : List (Nat × (List Ty × (List AV → PV))) := [(43, (Go.Proofs.YtmemeaaccgmeaaaGreat.A.F43.ts, Go.Proofs.YtmemeaaccgmeaaaGreat.A.F43.G)), (44, (Go.Proofs.YtmemeaaccgmeaaaGreat.A.F44.ts, Go.Proofs.YtmemeaaccgmeaaaGreat.A.F44.G))]
noncomputable def callF (g : FuncId) : CF := fun _ _ _ => False
noncomputable def L3 : K → Nat → St → Prop := mkL dec3 st3 0 1 [] Q3
noncomputable def loops : List (Nat × (List Nat × (K → Nat → St → Prop))) := [(3, (keep3, L3))]
noncomputable def C : Ctx := { ti := ti, meth := meth, can := can, pur := purOf purs, loops := fun i => seek loops i, gh := fun _ => [], owns := fun i => seek [(3, ((.pair (.int .u8) (.pair (.int .u64) (.pair (.pair (.int .u8) (.pair (.int .u64) (.pair (.int .u64) (.pair (.sl (.int .u8)) (.pair (.sl (.int .u8)) (.pair .bool (.pair (.int .u8) .unit))))))) (.pair (.int .u8) (.pair (.sl (.int .u8)) (.pair (.int .i64) (.pair (.int .i64) .unit))))))), 74))] i, xk := fun i => seek [(0, ([3], 0))] i, rk := some ([2], 1) }
noncomputable def Round3 (x0 : (List D74)) (n3 : Nat) (x4 : Int) (h0 : (List D74)) (N : St → Prop) (X : Nat → St → Prop) (R : St → Prop) : Prop :=
  (bif decide (x4 < (↑x0.length : Int)) then (((0 : Int) ≤ x4) ∧ ((x4 < (↑x0.length : Int)) ∧ ((F43.Pre (x0.getD x4.toNat d74).snd.snd.fst) ∧ ((List.length (x0.getD x4.toNat d74).snd.snd.snd.snd.fst ≤ LB) ∧ ((n3 ≤ h0.length) ∧ ((n3 + (1 : Nat) ≤ (488671834567 : Nat)) ∧ (((0 : Nat) + (1 : Nat) ≤ (1 : Nat)) ∧ N (st3 (x0, n3 + (1 : Nat), IntKind.i64.wrap (x4 + (1 : Int)), List.take n3 h0 ++ [((x0.getD x4.toNat d74).fst, (x0.getD x4.toNat d74).snd.fst, F43.val (x0.getD x4.toNat d74).snd.snd.fst, (x0.getD x4.toNat d74).snd.snd.snd)]))))))))) else X 0 (s0 (n3) (h0)))
theorem round3 (x0 : (List D74)) (n3 : Nat) (x4 : Int) (h0 : (List D74)) (N : St → Prop) (X : Nat → St → Prop) (R : St → Prop) : exec C callF body3 ⟨0, [1], fun s' => cond (Nat.ble 1 s'.H.length) (N (scrub keep3 1 s')) False, X, R⟩ (st3 (x0, n3, x4, h0)) = Round3 x0 n3 x4 h0 N X R := by kernel_rfl
noncomputable def Main (l : (List D74)) (k : AV → Prop) : Prop :=
  (st3 (l, (0 : Nat), (0 : Int), []) = st3 (l, (0 : Nat), (0 : Int), []) ∧ (((0 : Int) ≤ (0 : Int)) ∧ (((0 : Int) ≤ (↑l.length : Int)) ∧ ((l.length ≤ LB) ∧ (((↑(0 : Nat) : Int) = (0 : Int)) ∧ (([] = List.take (0 : Nat) l) ∧ ((∀ (c : D74), c ∈ l → LC c) ∧ (((0 : Nat) + l.length ≤ l.length) ∧ k (.v (.sl T74) (List.take l.length l))))))))))
theorem main (l : (List D74)) (k : AV → Prop) : (runFn C callF Tryz.f11 [.v (.sl (.pair (.int .u8) (.pair (.int .u64) (.pair (.pair (.int .u8) (.pair (.int .u64) (.pair (.int .u64) (.pair (.sl (.int .u8)) (.pair (.sl (.int .u8)) (.pair .bool (.pair (.int .u8) .unit))))))) (.pair (.int .u8) (.pair (.sl (.int .u8)) (.pair (.int .i64) (.pair (.int .i64) .unit)))))))) l] [] (fun r H => coRes H [(.sl (.pair (.int .u8) (.pair (.int .u64) (.pair (.pair (.int .u8) (.pair (.int .u64) (.pair (.int .u64) (.pair (.sl (.int .u8)) (.pair (.sl (.int .u8)) (.pair .bool (.pair (.int .u8) .unit))))))) (.pair (.int .u8) (.pair (.sl (.int .u8)) (.pair (.int .i64) (.pair (.int .i64) .unit))))))))] r k)) = Main l k := by kernel_rfl
theorem loop3 (v : V3) (X : Nat → St → Prop) (R : St → Prop) : Q3 v X R → ∃ m, loopN C callF keep3 1 body3 ⟨0, [], fun _ => False, X, R⟩ m (st3 v) := by
  refine loop_ind (fun v => Q3 v X R) (fun (cs, n, i, h) => cs.length - n) ?_ v
  rintro ⟨cs, n, i, h⟩ ⟨h0, h1, h2, rfl, rfl, h5, h6⟩ N hN
  rw [round3]
  dsimp only at hN
  have h2' : cs.length ≤ 1073741824 := h2
  refine bif_d (fun hj => ?_) (fun hj => ?_)
  · have hn : n < cs.length := by omega
    obtain ⟨g1, g2, g3⟩ := h5 _ (getD_mem hn d74)
    have e : List.take n (List.take n cs) ++ [cs.getD n d74] = cs.take (n + 1) := by rw [List.take_take, Nat.min_self, take_snoc hn d74]
    rw [Int.toNat_natCast, w64n (by omega)]
    refine ⟨by omega, by omega, ⟨g2, g3⟩, g1, by simp; omega, by omega, by decide, ?_⟩
    refine hN (cs, n + 1, ((n + 1 : Nat) : Int), _) ⟨by omega, by omega, h2, rfl, e, h5, h6⟩ (by dsimp only; omega)
  · have : n = cs.length := by omega
    subst this
    rw [List.take_length]
    exact h6
theorem spec (cs : List D74) (k : AV → Prop) (h : AllP [cs.length ≤ LB, ∀ c ∈ cs, LC c]) (hk : k (.v (.sl T74) cs)) : Main cs k := by
  refine ⟨rfl, by omega, by omega, h.1, rfl, rfl, h.2.1, by omega, ?_⟩
  simpa using hk
noncomputable def ts : List Ty := [(.sl T74)]
noncomputable def G : List AV → PV := pg1 (.sl T74) (fun l => [l.length ≤ LB, ∀ c ∈ l, LC c]) (fun l => .v (.sl T74) l)
theorem loopsOK : LoopsOK C callF (bodyOf Tryz.f11) := loopsOK_seek (tbl := loops) (fun _ => rfl) (by kernel_rfl) (List.forall_mem_cons.2 ⟨mkL_ok loop3, fun _ h => nomatch h⟩)
theorem pursOK : ∀ g ts F, C.pur g = some (ts, F) → SoundP Tryz.prog g F := purOf_ok (l := purs) (List.forall_mem_cons.2 ⟨Go.Proofs.YtmemeaaccgmeaaaGreat.A.F43.ok, List.forall_mem_cons.2 ⟨Go.Proofs.YtmemeaaccgmeaaaGreat.A.F44.ok, fun _ h => nomatch h⟩⟩)
theorem cfsOK : ∀ g, SoundF Tryz.prog g (callF g) := fun g => soundF_none g
theorem ok : SoundP Tryz.prog 11 G := by
  unfold G
  refine soundP_pg1 (soundF_run (C := C) (callF := callF) (tabOK C rfl rfl rfl) cfsOK pursOK Tryz.func11 (by kernel_rfl) loopsOK) [(.sl T74)] fun l h => ?_
  rw [main]
  exact spec l _ h rfl
end F11
namespace F26
noncomputable def purs : List (Nat × (List Ty × (List AV → PV))) := []
noncomputable def callF (g : FuncId) : CF := fun _ _ _ => False
noncomputable def loops : List (Nat × (List Nat × (K → Nat → St → Prop))) := []
noncomputable def C : Ctx := { ti := ti, meth := meth, can := can, pur := purOf purs, loops := fun i => seek loops i, gh := fun _ => [], rk := some ([4], 0) }
noncomputable def Main (a : D52) (b : D52) (k : AV → Prop) : Prop :=
  (bif a.fst != b.fst then k (.v .bool (false)) else (bif a.snd.fst != b.snd.fst then k (.v .bool (false)) else (bif a.snd.snd.fst != b.snd.snd.fst then k (.v .bool (false)) else (bif !a.snd.snd.snd.snd.snd.fst == b.snd.snd.snd.snd.snd.fst then k (.v .bool (false)) else (bif a.snd.snd.snd.snd.snd.snd.fst != b.snd.snd.snd.snd.snd.snd.fst then k (.v .bool (false)) else (bif (strOf a.snd.snd.snd.fst).toList == (strOf b.snd.snd.snd.fst).toList then k (.v .bool ((strOf a.snd.snd.snd.snd.fst).toList == (strOf b.snd.snd.snd.snd.fst).toList)) else k (.v .bool (false))))))))
theorem main (a : D52) (b : D52) (k : AV → Prop) : (runFn C callF Tryz.f26 [.v (.pair (.int .u8) (.pair (.int .u64) (.pair (.int .u64) (.pair (.sl (.int .u8)) (.pair (.sl (.int .u8)) (.pair .bool (.pair (.int .u8) .unit))))))) a, .v (.pair (.int .u8) (.pair (.int .u64) (.pair (.int .u64) (.pair (.sl (.int .u8)) (.pair (.sl (.int .u8)) (.pair .bool (.pair (.int .u8) .unit))))))) b] [] (fun r H => coRes H [.bool] r k)) = Main a b k := by kernel_rfl
def val (a : D52) (b : D52) : Bool :=
  (bif a.fst != b.fst then (false) else (bif a.snd.fst != b.snd.fst then (false) else (bif a.snd.snd.fst != b.snd.snd.fst then (false) else (bif !a.snd.snd.snd.snd.snd.fst == b.snd.snd.snd.snd.snd.fst then (false) else (bif a.snd.snd.snd.snd.snd.snd.fst != b.snd.snd.snd.snd.snd.snd.fst then (false) else (bif (strOf a.snd.snd.snd.fst).toList == (strOf b.snd.snd.snd.fst).toList then ((strOf a.snd.snd.snd.snd.fst).toList == (strOf b.snd.snd.snd.snd.fst).toList) else (false)))))))
def valAV (x : Bool) : AV := .v .bool x
theorem spec (a : D52) (b : D52) (k : AV → Prop) (_ : AllP []) (hk : k (.v .bool (val a b))) : Main a b k := (show (fun x => k (valAV x)) (val a b) → Main a b k from ((bif_pV (K := fun x => k (valAV x)) (fun _ h => h) (bif_pV (K := fun x => k (valAV x)) (fun _ h => h) (bif_pV (K := fun x => k (valAV x)) (fun _ h => h) (bif_pV (K := fun x => k (valAV x)) (fun _ h => h) (bif_pV (K := fun x => k (valAV x)) (fun _ h => h) (bif_pV (K := fun x => k (valAV x)) (fun _ h => h) (fun _ h => h))))))) : True → (fun x => k (valAV x)) (val a b) → Main a b k) trivial) hk
noncomputable def ts : List Ty := [T52, T52]
noncomputable def G : List AV → PV := pg2 T52 T52 (fun a b => []) (fun a b => .v .bool (val a b))
theorem loopsOK : LoopsOK C callF (bodyOf Tryz.f26) := loopsOK_seek (tbl := loops) (fun _ => rfl) (by kernel_rfl) (fun _ h => nomatch h)
theorem pursOK : ∀ g ts F, C.pur g = some (ts, F) → SoundP Tryz.prog g F := purOf_ok (l := purs) (fun _ h => nomatch h)
theorem cfsOK : ∀ g, SoundF Tryz.prog g (callF g) := fun g => soundF_none g
theorem ok : SoundP Tryz.prog 26 G := by
  unfold G
  refine soundP_pg2 (soundF_run (C := C) (callF := callF) (tabOK C rfl rfl rfl) cfsOK pursOK Tryz.func26 (by kernel_rfl) loopsOK) [.bool] fun a b h => ?_
  rw [main]
  exact spec a b _ h rfl
end F26
namespace F48
noncomputable def purs : List (Nat × (List Ty × (List AV → PV))) := [(26, (Go.Proofs.YtmemeaaccgmeaaaGreat.A.F26.ts, Go.Proofs.YtmemeaaccgmeaaaGreat.A.F26.G))]
noncomputable def callF (g : FuncId) : CF := fun _ _ _ => False
noncomputable def loops : List (Nat × (List Nat × (K → Nat → St → Prop))) := []
noncomputable def C : Ctx := { ti := ti, meth := meth, can := can, pur := purOf purs, loops := fun i => seek loops i, gh := fun _ => [], rk := some ([4], 0) }
noncomputable def Main (a : D74) (b : D74) (k : AV → Prop) : Prop :=
  (bif !F26.val a.snd.snd.fst b.snd.snd.fst then k (.v .bool (false)) else (bif a.fst != b.fst then k (.v .bool (false)) else (bif a.snd.fst != b.snd.fst then k (.v .bool (false)) else (bif a.snd.snd.snd.fst != b.snd.snd.snd.fst then k (.v .bool (false)) else (bif a.snd.snd.snd.snd.snd.fst != b.snd.snd.snd.snd.snd.fst then k (.v .bool (false)) else (bif a.snd.snd.snd.snd.snd.snd.fst != b.snd.snd.snd.snd.snd.snd.fst then k (.v .bool (false)) else k (.v .bool ((strOf a.snd.snd.snd.snd.fst).toList == (strOf b.snd.snd.snd.snd.fst).toList))))))))
theorem main (a : D74) (b : D74) (k : AV → Prop) : (runFn C callF Tryz.f48 [.v (.pair (.int .u8) (.pair (.int .u64) (.pair (.pair (.int .u8) (.pair (.int .u64) (.pair (.int .u64) (.pair (.sl (.int .u8)) (.pair (.sl (.int .u8)) (.pair .bool (.pair (.int .u8) .unit))))))) (.pair (.int .u8) (.pair (.sl (.int .u8)) (.pair (.int .i64) (.pair (.int .i64) .unit))))))) a, .v (.pair (.int .u8) (.pair (.int .u64) (.pair (.pair (.int .u8) (.pair (.int .u64) (.pair (.int .u64) (.pair (.sl (.int .u8)) (.pair (.sl (.int .u8)) (.pair .bool (.pair (.int .u8) .unit))))))) (.pair (.int .u8) (.pair (.sl (.int .u8)) (.pair (.int .i64) (.pair (.int .i64) .unit))))))) b] [] (fun r H => coRes H [.bool] r k)) = Main a b k := by kernel_rfl
def val (a : D74) (b : D74) : Bool :=
  (bif !F26.val a.snd.snd.fst b.snd.snd.fst then (false) else (bif a.fst != b.fst then (false) else (bif a.snd.fst != b.snd.fst then (false) else (bif a.snd.snd.snd.fst != b.snd.snd.snd.fst then (false) else (bif a.snd.snd.snd.snd.snd.fst != b.snd.snd.snd.snd.snd.fst then (false) else (bif a.snd.snd.snd.snd.snd.snd.fst != b.snd.snd.snd.snd.snd.snd.fst then (false) else ((strOf a.snd.snd.snd.snd.fst).toList == (strOf b.snd.snd.snd.snd.fst).toList)))))))
def valAV (x : Bool) : AV := .v .bool x
theorem spec (a : D74) (b : D74) (k : AV → Prop) (_ : AllP []) (hk : k (.v .bool (val a b))) : Main a b k := (show (fun x => k (valAV x)) (val a b) → Main a b k from ((bif_pV (K := fun x => k (valAV x)) (fun _ h => h) (bif_pV (K := fun x => k (valAV x)) (fun _ h => h) (bif_pV (K := fun x => k (valAV x)) (fun _ h => h) (bif_pV (K := fun x => k (valAV x)) (fun _ h => h) (bif_pV (K := fun x => k (valAV x)) (fun _ h => h) (bif_pV (K := fun x => k (valAV x)) (fun _ h => h) (fun _ h => h))))))) : True → (fun x => k (valAV x)) (val a b) → Main a b k) trivial) hk
noncomputable def ts : List Ty := [T74, T74]
noncomputable def G : List AV → PV := pg2 T74 T74 (fun a b => []) (fun a b => .v .bool (val a b))
theorem loopsOK : LoopsOK C callF (bodyOf Tryz.f48) := loopsOK_seek (tbl := loops) (fun _ => rfl) (by kernel_rfl) (fun _ h => nomatch h)
theorem pursOK : ∀ g ts F, C.pur g = some (ts, F) → SoundP Tryz.prog g F := purOf_ok (l := purs) (List.forall_mem_cons.2 ⟨Go.Proofs.YtmemeaaccgmeaaaGreat.A.F26.ok, fun _ h => nomatch h⟩)
theorem cfsOK : ∀ g, SoundF Tryz.prog g (callF g) := fun g => soundF_none g
theorem ok : SoundP Tryz.prog 48 G := by
  unfold G
  refine soundP_pg2 (soundF_run (C := C) (callF := callF) (tabOK C rfl rfl rfl) cfsOK pursOK Tryz.func48 (by kernel_rfl) loopsOK) [.bool] fun a b h => ?_
  rw [main]
  exact spec a b _ h rfl
end F48
namespace F14
abbrev V4 := (List D74) × (List D74) × Int
noncomputable def st4 (v : V4) : St := ⟨[.v (.sl T74) (v.1), .v (.sl T74) (v.2.1), .dead, .dead, .dead, .v (.int .i64) (v.2.2), .dead, .dead, .dead, .dead, .dead, .dead, .dead, .dead, .dead, .dead, .dead, .dead, .dead, .dead, .dead, .dead, .dead, .dead, .dead, .dead, .dead, .dead, .dead], []⟩
noncomputable def dec4 (s : St) : Option V4 := match gV (.sl T74) (s.T.getD 0 .dead), gV (.sl T74) (s.T.getD 1 .dead), gV (.int .i64) (s.T.getD 5 .dead) with | some a0, some a1, some a5 => some (a0, a1, a5) | _, _, _ => none
noncomputable def keep4 : List Nat := [0, 1, 5]
noncomputable def body4 : Code := bodyAt (loopsOf (bodyOf Tryz.f14)) 4
noncomputable def s0 (x4 : Bool) : St := ⟨[.dead, .dead, .dead, .dead, .v .bool x4, .dead, .dead, .dead, .dead, .dead, .dead, .dead, .dead, .dead, .dead, .dead, .dead, .dead, .dead, .dead, .dead, .dead, .dead, .dead, .dead, .dead, .dead, .dead, .dead], []⟩
noncomputable def s1 : St := ⟨[.dead, .dead, .dead, .dead, .dead, .dead, .dead, .dead, .dead, .dead, .dead, .dead, .dead, .dead, .dead, .dead, .dead, .dead, .dead, .dead, .dead, .dead, .dead, .dead, .dead, .dead, .dead, .dead, .dead], []⟩
def Q4 : V4 → (Nat → St → Prop) → (St → Prop) → Prop := fun (a, b, i) X R => 0 ≤ i ∧ i ≤ a.length ∧ a.length ≤ LB ∧ a = b ∧ X 0 s1
noncomputable def purs : List (Nat × (List Ty × (List AV → PV))) := [(48, (Go.Proofs.YtmemeaaccgmeaaaGreat.A.F48.ts, Go.Proofs.YtmemeaaccgmeaaaGreat.A.F48.G))]
noncomputable def callF (g : FuncId) : CF := fun _ _ _ => False
noncomputable def L4 : K → Nat → St → Prop := mkL dec4 st4 0 0 [] Q4
noncomputable def loops : List (Nat × (List Nat × (K → Nat → St → Prop))) := [(4, (keep4, L4))]
noncomputable def C : Ctx := { ti := ti, meth := meth, can := can, pur := purOf purs, loops := fun i => seek loops i, gh := fun _ => [], xk := fun i => seek [(0, ([], 0))] i, rk := some ([4], 0) }
noncomputable def Round4 (x0 : (List D74)) (x1 : (List D74)) (x5 : Int) (N : St → Prop) (X : Nat → St → Prop) (R : St → Prop) : Prop :=
  (bif decide (x5 < (↑x0.length : Int)) then (((0 : Int) ≤ x5) ∧ ((x5 < (↑x0.length : Int)) ∧ (((0 : Int) ≤ x5) ∧ ((x5 < (↑x1.length : Int)) ∧ (bif !F48.val (x0.getD x5.toNat d74) (x1.getD x5.toNat d74) then R (s0 (false)) else N (st4 (x0, x1, IntKind.i64.wrap (x5 + (1 : Int))))))))) else X 0 (s1))
theorem round4 (x0 : (List D74)) (x1 : (List D74)) (x5 : Int) (N : St → Prop) (X : Nat → St → Prop) (R : St → Prop) : exec C callF body4 ⟨0, [0], fun s' => cond (Nat.ble 0 s'.H.length) (N (scrub keep4 0 s')) False, X, R⟩ (st4 (x0, x1, x5)) = Round4 x0 x1 x5 N X R := by kernel_rfl
noncomputable def Main (a : (List D74)) (b : (List D74)) (k : AV → Prop) : Prop :=
  (bif (↑a.length : Int) != (↑b.length : Int) then k (.v .bool (false)) else (st4 (a, b, (0 : Int)) = st4 (a, b, (0 : Int)) ∧ (((0 : Int) ≤ (0 : Int)) ∧ (((0 : Int) ≤ (↑a.length : Int)) ∧ ((a.length ≤ LB) ∧ ((a = b) ∧ k (.v .bool (true))))))))
theorem main (a : (List D74)) (b : (List D74)) (k : AV → Prop) : (runFn C callF Tryz.f14 [.v (.sl (.pair (.int .u8) (.pair (.int .u64) (.pair (.pair (.int .u8) (.pair (.int .u64) (.pair (.int .u64) (.pair (.sl (.int .u8)) (.pair (.sl (.int .u8)) (.pair .bool (.pair (.int .u8) .unit))))))) (.pair (.int .u8) (.pair (.sl (.int .u8)) (.pair (.int .i64) (.pair (.int .i64) .unit)))))))) a, .v (.sl (.pair (.int .u8) (.pair (.int .u64) (.pair (.pair (.int .u8) (.pair (.int .u64) (.pair (.int .u64) (.pair (.sl (.int .u8)) (.pair (.sl (.int .u8)) (.pair .bool (.pair (.int .u8) .unit))))))) (.pair (.int .u8) (.pair (.sl (.int .u8)) (.pair (.int .i64) (.pair (.int .i64) .unit)))))))) b] [] (fun r H => coRes H [.bool] r k)) = Main a b k := by kernel_rfl
theorem same_self (c : D74) : F48.val c c = true := by
  simp [F48.val, F26.val]
theorem loop4 (v : V4) (X : Nat → St → Prop) (R : St → Prop) : Q4 v X R → ∃ m, loopN C callF keep4 0 body4 ⟨0, [], fun _ => False, X, R⟩ m (st4 v) := by
  refine loop_ind (fun v => Q4 v X R) (fun (a, b, i) => a.length - i.toNat) ?_ v
  rintro ⟨a, b, i⟩ ⟨h0, h1, h2, rfl, h4⟩ N hN
  rw [round4]
  obtain ⟨j, rfl⟩ : ∃ a : Nat, i = a := ⟨i.toNat, by omega⟩
  dsimp only at hN
  have h2' : a.length ≤ 1073741824 := h2
  refine bif_d (fun hj => ?_) (fun hj => h4)
  rw [w64n (by omega), same_self]
  exact ⟨by omega, by omega, by omega, by omega, hN (a, a, ((j + 1 : Nat) : Int)) ⟨by omega, by omega, h2, rfl, h4⟩ (by dsimp only; omega)⟩
theorem spec (a b : List D74) (k : AV → Prop) (h : AllP [a = b, a.length ≤ LB]) (hk : k (.v .bool true)) : Main a b k := by
  obtain ⟨rfl, h2, _⟩ := h
  exact bif_f (by simp) ⟨rfl, by omega, by omega, h2, rfl, hk⟩
noncomputable def ts : List Ty := [(.sl T74), (.sl T74)]
noncomputable def G : List AV → PV := pg2 (.sl T74) (.sl T74) (fun a b => [a = b, a.length ≤ LB]) (fun a b => .v .bool true)
theorem loopsOK : LoopsOK C callF (bodyOf Tryz.f14) := loopsOK_seek (tbl := loops) (fun _ => rfl) (by kernel_rfl) (List.forall_mem_cons.2 ⟨mkL_ok loop4, fun _ h => nomatch h⟩)
theorem pursOK : ∀ g ts F, C.pur g = some (ts, F) → SoundP Tryz.prog g F := purOf_ok (l := purs) (List.forall_mem_cons.2 ⟨Go.Proofs.YtmemeaaccgmeaaaGreat.A.F48.ok, fun _ h => nomatch h⟩)
theorem cfsOK : ∀ g, SoundF Tryz.prog g (callF g) := fun g => soundF_none g
theorem ok : SoundP Tryz.prog 14 G := by
  unfold G
  refine soundP_pg2 (soundF_run (C := C) (callF := callF) (tabOK C rfl rfl rfl) cfsOK pursOK Tryz.func14 (by kernel_rfl) loopsOK) [.bool] fun a b h => ?_
  rw [main]
  exact spec a b _ h rfl
end F14
namespace F74
noncomputable def purs : List (Nat × (List Ty × (List AV → PV))) := []
noncomputable def callF (g : FuncId) : CF := fun _ _ _ => False
noncomputable def loops : List (Nat × (List Nat × (K → Nat → St → Prop))) := []
noncomputable def C : Ctx := { ti := ti, meth := meth, can := can, pur := purOf purs, loops := fun i => seek loops i, gh := fun _ => [], rk := some ([2], 0) }
noncomputable def Main (a : Int) (k : AV → Prop) : Prop :=
  (bif decide (a ≥ (16 : Int)) then k (.v .bool (decide (a ≤ (31 : Int)))) else k (.v .bool (false)))
theorem main (a : Int) (k : AV → Prop) : (runFn C callF Tryz.f74 [.v (.int .u8) a] [] (fun r H => coRes H [.bool] r k)) = Main a k := by kernel_rfl
def val (a : Int) : Bool :=
  (bif decide (a ≥ (16 : Int)) then (decide (a ≤ (31 : Int))) else (false))
def valAV (x : Bool) : AV := .v .bool x
theorem spec (a : Int) (k : AV → Prop) (_ : AllP []) (hk : k (.v .bool (val a))) : Main a k := (show (fun x => k (valAV x)) (val a) → Main a k from ((bif_pV (K := fun x => k (valAV x)) (fun _ h => h) (fun _ h => h)) : True → (fun x => k (valAV x)) (val a) → Main a k) trivial) hk
noncomputable def ts : List Ty := [(.int .u8)]
noncomputable def G : List AV → PV := pg1 (.int .u8) (fun a => []) (fun a => .v .bool (val a))
theorem loopsOK : LoopsOK C callF (bodyOf Tryz.f74) := loopsOK_seek (tbl := loops) (fun _ => rfl) (by kernel_rfl) (fun _ h => nomatch h)
theorem pursOK : ∀ g ts F, C.pur g = some (ts, F) → SoundP Tryz.prog g F := purOf_ok (l := purs) (fun _ h => nomatch h)
theorem cfsOK : ∀ g, SoundF Tryz.prog g (callF g) := fun g => soundF_none g
theorem ok : SoundP Tryz.prog 74 G := by
  unfold G
  refine soundP_pg1 (soundF_run (C := C) (callF := callF) (tabOK C rfl rfl rfl) cfsOK pursOK Tryz.func74 (by kernel_rfl) loopsOK) [.bool] fun a h => ?_
  rw [main]
  exact spec a _ h rfl
end F74
namespace F55
noncomputable def purs : List (Nat × (List Ty × (List AV → PV))) := [(83, (Go.Proofs.YtmemeaaccgmeaaaGreat.W.F83.ts, Go.Proofs.YtmemeaaccgmeaaaGreat.W.F83.G))]
noncomputable def callF (g : FuncId) : CF := fun _ _ _ => False
noncomputable def loops : List (Nat × (List Nat × (K → Nat → St → Prop))) := []
noncomputable def C : Ctx := { ti := ti, meth := meth, can := can, pur := purOf purs, loops := fun i => seek loops i, gh := fun _ => [], rk := some ([2], 0) }
noncomputable def Main (a : Int) (k : AV → Prop) : Prop :=
  k (.v .bool (F83.val a == (2 : Int)))
theorem main (a : Int) (k : AV → Prop) : (runFn C callF Tryz.f55 [.v (.int .u8) a] [] (fun r H => coRes H [.bool] r k)) = Main a k := by kernel_rfl
def val (a : Int) : Bool :=
  (F83.val a == (2 : Int))
def valAV (x : Bool) : AV := .v .bool x
theorem spec (a : Int) (k : AV → Prop) (_ : AllP []) (hk : k (.v .bool (val a))) : Main a k := (show (fun x => k (valAV x)) (val a) → Main a k from ((fun _ h => h) : True → (fun x => k (valAV x)) (val a) → Main a k) trivial) hk
noncomputable def ts : List Ty := [(.int .u8)]
noncomputable def G : List AV → PV := pg1 (.int .u8) (fun a => []) (fun a => .v .bool (val a))
theorem loopsOK : LoopsOK C callF (bodyOf Tryz.f55) := loopsOK_seek (tbl := loops) (fun _ => rfl) (by kernel_rfl) (fun _ h => nomatch h)
theorem pursOK : ∀ g ts F, C.pur g = some (ts, F) → SoundP Tryz.prog g F := purOf_ok (l := purs) (List.forall_mem_cons.2 ⟨Go.Proofs.YtmemeaaccgmeaaaGreat.W.F83.ok, fun _ h => nomatch h⟩)
theorem cfsOK : ∀ g, SoundF Tryz.prog g (callF g) := fun g => soundF_none g
theorem ok : SoundP Tryz.prog 55 G := by
  unfold G
  refine soundP_pg1 (soundF_run (C := C) (callF := callF) (tabOK C rfl rfl rfl) cfsOK pursOK Tryz.func55 (by kernel_rfl) loopsOK) [.bool] fun a h => ?_
  rw [main]
  exact spec a _ h rfl
end F55
namespace F91
noncomputable def purs : List (Nat × (List Ty × (List AV → PV))) := []
noncomputable def callF (g : FuncId) : CF := fun _ _ _ => False
noncomputable def loops : List (Nat × (List Nat × (K → Nat → St → Prop))) := []
noncomputable def C : Ctx := { ti := ti, meth := meth, can := can, pur := purOf purs, loops := fun i => seek loops i, gh := fun _ => [] }
noncomputable def Main (r : D52) (q : Int) (k : AV → Prop) : Prop :=
  k (.v T66 ((r.fst), ((q), ((r.snd.fst), ((r.snd.snd.fst), ((r.snd.snd.snd.fst), ((r.snd.snd.snd.snd.fst), ((r.snd.snd.snd.snd.snd.fst), (((0 : Int)), (((0 : Int)), (((0 : Int)), (((0 : Int)), (((0 : Int)), (((0 : Int)), ((r.snd.snd.snd.snd.snd.snd.fst), (([]), (([]), (([]), ()))))))))))))))))))
theorem main (r : D52) (q : Int) (k : AV → Prop) : (runFn C callF Tryz.f91 [.v (.pair (.int .u8) (.pair (.int .u64) (.pair (.int .u64) (.pair (.sl (.int .u8)) (.pair (.sl (.int .u8)) (.pair .bool (.pair (.int .u8) .unit))))))) r, .v (.int .u64) q] [] (fun r H => coRes H [(.pair (.int .u8) (.pair (.int .u64) (.pair (.int .u64) (.pair (.int .u64) (.pair (.sl (.int .u8)) (.pair (.sl (.int .u8)) (.pair .bool (.pair (.int .u8) (.pair (.int .u8) (.pair (.int .u8) (.pair (.int .u32) (.pair (.int .u32) (.pair (.int .u64) (.pair (.int .u8) (.pair (.sl (.pair (.int .u64) (.pair (.sl (.int .u8)) .unit))) (.pair (.sl (.pair (.int .u8) (.pair (.int .u64) (.pair (.int .u8) .unit)))) (.pair (.sl (.int .u8)) .unit)))))))))))))))))] r k)) = Main r q k := by kernel_rfl
def val (r : D52) (q : Int) : D66 :=
  ((r.fst), ((q), ((r.snd.fst), ((r.snd.snd.fst), ((r.snd.snd.snd.fst), ((r.snd.snd.snd.snd.fst), ((r.snd.snd.snd.snd.snd.fst), (((0 : Int)), (((0 : Int)), (((0 : Int)), (((0 : Int)), (((0 : Int)), (((0 : Int)), ((r.snd.snd.snd.snd.snd.snd.fst), (([]), (([]), (([]), ())))))))))))))))))
def valAV (x : D66) : AV := .v T66 x
theorem spec (r : D52) (q : Int) (k : AV → Prop) (_ : AllP []) (hk : k (.v T66 (val r q))) : Main r q k := (show (fun x => k (valAV x)) (val r q) → Main r q k from ((fun _ h => h) : True → (fun x => k (valAV x)) (val r q) → Main r q k) trivial) hk
noncomputable def ts : List Ty := [T52, (.int .u64)]
noncomputable def G : List AV → PV := pg2 T52 (.int .u64) (fun r q => []) (fun r q => .v T66 (val r q))
theorem loopsOK : LoopsOK C callF (bodyOf Tryz.f91) := loopsOK_seek (tbl := loops) (fun _ => rfl) (by kernel_rfl) (fun _ h => nomatch h)
theorem pursOK : ∀ g ts F, C.pur g = some (ts, F) → SoundP Tryz.prog g F := purOf_ok (l := purs) (fun _ h => nomatch h)
theorem cfsOK : ∀ g, SoundF Tryz.prog g (callF g) := fun g => soundF_none g
theorem ok : SoundP Tryz.prog 91 G := by
  unfold G
  refine soundP_pg2 (soundF_run (C := C) (callF := callF) (tabOK C rfl rfl rfl) cfsOK pursOK Tryz.func91 (by kernel_rfl) loopsOK) [T66] fun r q h => ?_
  rw [main]
  exact spec r q _ h rfl
end F91
namespace F92
noncomputable def purs : List (Nat × (List Ty × (List AV → PV))) := []
noncomputable def callF (g : FuncId) : CF := fun _ _ _ => False
noncomputable def loops : List (Nat × (List Nat × (K → Nat → St → Prop))) := []
noncomputable def C : Ctx := { ti := ti, meth := meth, can := can, pur := purOf purs, loops := fun i => seek loops i, gh := fun _ => [] }
noncomputable def Main (r : D52) (q : Int) (k : AV → Prop) : Prop :=
  k (.v T66 ((r.fst), ((q), ((r.snd.fst), ((r.snd.snd.fst), ((r.snd.snd.snd.fst), ((r.snd.snd.snd.snd.fst), ((r.snd.snd.snd.snd.snd.fst), (((0 : Int)), (((0 : Int)), (((0 : Int)), (((0 : Int)), (((0 : Int)), (((0 : Int)), ((r.snd.snd.snd.snd.snd.snd.fst), (([]), (([]), (([]), ()))))))))))))))))))
theorem main (r : D52) (q : Int) (k : AV → Prop) : (runFn C callF Tryz.f92 [.v (.pair (.int .u8) (.pair (.int .u64) (.pair (.int .u64) (.pair (.sl (.int .u8)) (.pair (.sl (.int .u8)) (.pair .bool (.pair (.int .u8) .unit))))))) r, .v (.int .u64) q] [] (fun r H => coRes H [(.pair (.int .u8) (.pair (.int .u64) (.pair (.int .u64) (.pair (.int .u64) (.pair (.sl (.int .u8)) (.pair (.sl (.int .u8)) (.pair .bool (.pair (.int .u8) (.pair (.int .u8) (.pair (.int .u8) (.pair (.int .u32) (.pair (.int .u32) (.pair (.int .u64) (.pair (.int .u8) (.pair (.sl (.pair (.int .u64) (.pair (.sl (.int .u8)) .unit))) (.pair (.sl (.pair (.int .u8) (.pair (.int .u64) (.pair (.int .u8) .unit)))) (.pair (.sl (.int .u8)) .unit)))))))))))))))))] r k)) = Main r q k := by kernel_rfl
def val (r : D52) (q : Int) : D66 :=
  ((r.fst), ((q), ((r.snd.fst), ((r.snd.snd.fst), ((r.snd.snd.snd.fst), ((r.snd.snd.snd.snd.fst), ((r.snd.snd.snd.snd.snd.fst), (((0 : Int)), (((0 : Int)), (((0 : Int)), (((0 : Int)), (((0 : Int)), (((0 : Int)), ((r.snd.snd.snd.snd.snd.snd.fst), (([]), (([]), (([]), ())))))))))))))))))
def valAV (x : D66) : AV := .v T66 x
theorem spec (r : D52) (q : Int) (k : AV → Prop) (_ : AllP []) (hk : k (.v T66 (val r q))) : Main r q k := (show (fun x => k (valAV x)) (val r q) → Main r q k from ((fun _ h => h) : True → (fun x => k (valAV x)) (val r q) → Main r q k) trivial) hk
noncomputable def ts : List Ty := [T52, (.int .u64)]
noncomputable def G : List AV → PV := pg2 T52 (.int .u64) (fun r q => []) (fun r q => .v T66 (val r q))
theorem loopsOK : LoopsOK C callF (bodyOf Tryz.f92) := loopsOK_seek (tbl := loops) (fun _ => rfl) (by kernel_rfl) (fun _ h => nomatch h)
theorem pursOK : ∀ g ts F, C.pur g = some (ts, F) → SoundP Tryz.prog g F := purOf_ok (l := purs) (fun _ h => nomatch h)
theorem cfsOK : ∀ g, SoundF Tryz.prog g (callF g) := fun g => soundF_none g
theorem ok : SoundP Tryz.prog 92 G := by
  unfold G
  refine soundP_pg2 (soundF_run (C := C) (callF := callF) (tabOK C rfl rfl rfl) cfsOK pursOK Tryz.func92 (by kernel_rfl) loopsOK) [T66] fun r q h => ?_
  rw [main]
  exact spec r q _ h rfl
end F92
namespace F47
noncomputable def purs : List (Nat × (List Ty × (List AV → PV))) := []
noncomputable def callF (g : FuncId) : CF := fun _ _ _ => False
noncomputable def loops : List (Nat × (List Nat × (K → Nat → St → Prop))) := []
noncomputable def C : Ctx := { ti := ti, meth := meth, can := can, pur := purOf purs, loops := fun i => seek loops i, gh := fun _ => [], rk := some ([4], 0) }
noncomputable def Main (a : D74) (c : D74) (k : AV → Prop) : Prop :=
  (bif decide (c.snd.snd.snd.snd.snd.fst ≤ a.snd.snd.snd.snd.snd.fst) then k (.v .bool (true)) else (bif c.snd.snd.snd.snd.snd.fst == a.snd.snd.snd.snd.snd.snd.fst then k (.v .bool (true)) else (bif decide (c.snd.snd.snd.snd.snd.snd.fst ≥ (0 : Int)) then (bif c.snd.snd.snd.snd.snd.snd.fst == a.snd.snd.snd.snd.snd.fst then k (.v .bool (true)) else (bif c.snd.snd.snd.snd.snd.snd.fst == a.snd.snd.snd.snd.snd.snd.fst then k (.v .bool (true)) else (bif c.fst == a.fst then (bif decide (c.snd.fst ≤ a.snd.fst) then k (.v .bool (true)) else k (.v .bool (decide (a.snd.snd.snd.snd.snd.snd.fst ≥ c.snd.snd.snd.snd.snd.fst)))) else k (.v .bool (false))))) else (bif c.fst == a.fst then (bif decide (c.snd.fst ≤ a.snd.fst) then k (.v .bool (true)) else k (.v .bool (decide (a.snd.snd.snd.snd.snd.snd.fst ≥ c.snd.snd.snd.snd.snd.fst)))) else k (.v .bool (false))))))
theorem main (a : D74) (c : D74) (k : AV → Prop) : (runFn C callF Tryz.f47 [.v (.pair (.int .u8) (.pair (.int .u64) (.pair (.pair (.int .u8) (.pair (.int .u64) (.pair (.int .u64) (.pair (.sl (.int .u8)) (.pair (.sl (.int .u8)) (.pair .bool (.pair (.int .u8) .unit))))))) (.pair (.int .u8) (.pair (.sl (.int .u8)) (.pair (.int .i64) (.pair (.int .i64) .unit))))))) a, .v (.pair (.int .u8) (.pair (.int .u64) (.pair (.pair (.int .u8) (.pair (.int .u64) (.pair (.int .u64) (.pair (.sl (.int .u8)) (.pair (.sl (.int .u8)) (.pair .bool (.pair (.int .u8) .unit))))))) (.pair (.int .u8) (.pair (.sl (.int .u8)) (.pair (.int .i64) (.pair (.int .i64) .unit))))))) c] [] (fun r H => coRes H [.bool] r k)) = Main a c k := by kernel_rfl
def val (a : D74) (c : D74) : Bool :=
  (bif decide (c.snd.snd.snd.snd.snd.fst ≤ a.snd.snd.snd.snd.snd.fst) then (true) else (bif c.snd.snd.snd.snd.snd.fst == a.snd.snd.snd.snd.snd.snd.fst then (true) else (bif decide (c.snd.snd.snd.snd.snd.snd.fst ≥ (0 : Int)) then (bif c.snd.snd.snd.snd.snd.snd.fst == a.snd.snd.snd.snd.snd.fst then (true) else (bif c.snd.snd.snd.snd.snd.snd.fst == a.snd.snd.snd.snd.snd.snd.fst then (true) else (bif c.fst == a.fst then (bif decide (c.snd.fst ≤ a.snd.fst) then (true) else (decide (a.snd.snd.snd.snd.snd.snd.fst ≥ c.snd.snd.snd.snd.snd.fst))) else (false)))) else (bif c.fst == a.fst then (bif decide (c.snd.fst ≤ a.snd.fst) then (true) else (decide (a.snd.snd.snd.snd.snd.snd.fst ≥ c.snd.snd.snd.snd.snd.fst))) else (false)))))
def valAV (x : Bool) : AV := .v .bool x
theorem spec (a : D74) (c : D74) (k : AV → Prop) (_ : AllP []) (hk : k (.v .bool (val a c))) : Main a c k := (show (fun x => k (valAV x)) (val a c) → Main a c k from ((bif_pV (K := fun x => k (valAV x)) (fun _ h => h) (bif_pV (K := fun x => k (valAV x)) (fun _ h => h) (bif_pV (K := fun x => k (valAV x)) (bif_pV (K := fun x => k (valAV x)) (fun _ h => h) (bif_pV (K := fun x => k (valAV x)) (fun _ h => h) (bif_pV (K := fun x => k (valAV x)) (bif_pV (K := fun x => k (valAV x)) (fun _ h => h) (fun _ h => h)) (fun _ h => h)))) (bif_pV (K := fun x => k (valAV x)) (bif_pV (K := fun x => k (valAV x)) (fun _ h => h) (fun _ h => h)) (fun _ h => h))))) : True → (fun x => k (valAV x)) (val a c) → Main a c k) trivial) hk
noncomputable def ts : List Ty := [T74, T74]
noncomputable def G : List AV → PV := pg2 T74 T74 (fun a c => []) (fun a c => .v .bool (val a c))
theorem loopsOK : LoopsOK C callF (bodyOf Tryz.f47) := loopsOK_seek (tbl := loops) (fun _ => rfl) (by kernel_rfl) (fun _ h => nomatch h)
theorem pursOK : ∀ g ts F, C.pur g = some (ts, F) → SoundP Tryz.prog g F := purOf_ok (l := purs) (fun _ h => nomatch h)
theorem cfsOK : ∀ g, SoundF Tryz.prog g (callF g) := fun g => soundF_none g
theorem ok : SoundP Tryz.prog 47 G := by
  unfold G
  refine soundP_pg2 (soundF_run (C := C) (callF := callF) (tabOK C rfl rfl rfl) cfsOK pursOK Tryz.func47 (by kernel_rfl) loopsOK) [.bool] fun a c h => ?_
  rw [main]
  exact spec a c _ h rfl
end F47

end Go.Proofs.YtmemeaaccgmeaaaGreat.A
