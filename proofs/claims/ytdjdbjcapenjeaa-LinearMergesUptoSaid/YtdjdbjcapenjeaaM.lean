/- Merge: what is left, and its earliest end -/
import Derived.Test.YtdjdbjcapenjeaaDxTab
import Derived.Test.YtdjdbjcapenjeaaDx3
import Derived.Test.YtdjdbjcapenjeaaDxTy
import Derived.Test.YtdjdbjcapenjeaaD
import Derived.Test.YtdjdbjcapenjeaaA
set_option linter.unusedVariables false
set_option maxRecDepth 100000
open Go Go.Proofs Go.Proofs.Ytdjdbjcapenjeaa.Dx Go.Proofs.Ytdjdbjcapenjeaa.Dx.TYtdjdbjcapenjeaa
namespace Go.Proofs.Ytdjdbjcapenjeaa.M
open D
/-- The least end of these calls and a number. -/
def mn (cs : List D30) : List Int → Int → Int
  | [], m => m
  | y :: r, m => mn cs r (bif A.F41.val (cs.getD y.toNat d30) then (bif decide (m < 0) then (cs.getD y.toNat d30).2.2.2.2.2.2.1 else bif decide ((cs.getD y.toNat d30).2.2.2.2.2.2.1 < m) then (cs.getD y.toNat d30).2.2.2.2.2.2.1 else m) else m)
def mnA (cs : List D30) : List D72 → Int → Int
  | [], m => m
  | l :: r, m => mnA cs r (mn cs (l.1.drop l.2.1.toNat) m)
/-- Lines of numbers of calls, and how far they have come. -/
def LOK (cs : List D30) (all : List D72) : Prop := ∀ l ∈ all, 0 ≤ l.2.1 ∧ l.2.1 ≤ l.1.length ∧ l.1.length ≤ LB ∧ ∀ y ∈ l.1, 0 ≤ y ∧ y < cs.length
namespace F33
abbrev V3 := (List D30) × Int × (List D72) × Int × Int
noncomputable def st3 (v : V3) : St := ⟨[.v (.sl T30) (v.1), .dead, .dead, .dead, .dead, .v (.int .i64) (v.2.1), .dead, .dead, .dead, .dead, .dead, .v (.sl T72) (v.2.2.1), .v (.int .i64) (v.2.2.2.1), .v (.int .i64) (v.2.2.2.2), .dead, .dead, .dead, .dead, .dead, .dead, .dead, .dead, .dead, .dead, .dead, .dead, .dead, .dead, .dead, .dead, .dead, .dead, .dead, .dead, .dead, .dead, .dead, .dead, .dead, .dead, .dead, .dead, .dead, .dead, .dead, .dead, .dead, .dead, .dead, .dead, .dead, .dead, .dead], []⟩
noncomputable def dec3 (s : St) : Option V3 := match gV (.sl T30) (s.T.getD 0 .dead), gV (.int .i64) (s.T.getD 5 .dead), gV (.sl T72) (s.T.getD 11 .dead), gV (.int .i64) (s.T.getD 12 .dead), gV (.int .i64) (s.T.getD 13 .dead) with | some a0, some a5, some a11, some a12, some a13 => some (a0, a5, a11, a12, a13) | _, _, _, _, _ => none
noncomputable def keep3 : List Nat := [0, 5, 11, 12, 13]
noncomputable def body3 : Code := bodyAt (loopsOf (bodyOf Try.f33)) 3
abbrev V6 := (List D30) × Int × (List D72) × Int × Int × (List Int) × Int × Int × D72
noncomputable def st6 (v : V6) : St := ⟨[.v (.sl T30) (v.1), .dead, .dead, .dead, .dead, .v (.int .i64) (v.2.1), .dead, .dead, .dead, .dead, .dead, .v (.sl T72) (v.2.2.1), .v (.int .i64) (v.2.2.2.1), .v (.int .i64) (v.2.2.2.2.1), .dead, .dead, .dead, .dead, .dead, .dead, .dead, .v (.sl (.int .i64)) (v.2.2.2.2.2.1), .v (.int .i64) (v.2.2.2.2.2.2.1), .v (.int .i64) (v.2.2.2.2.2.2.2.1), .dead, .dead, .dead, .dead, .dead, .dead, .dead, .dead, .dead, .dead, .dead, .dead, .dead, .dead, .dead, .dead, .dead, .dead, .dead, .dead, .dead, .dead, .dead, .dead, .dead, .dead, .dead, .dead, .dead], [.var T72 (v.2.2.2.2.2.2.2.2) 72]⟩
noncomputable def dec6 (s : St) : Option V6 := match gV (.sl T30) (s.T.getD 0 .dead), gV (.int .i64) (s.T.getD 5 .dead), gV (.sl T72) (s.T.getD 11 .dead), gV (.int .i64) (s.T.getD 12 .dead), gV (.int .i64) (s.T.getD 13 .dead), gV (.sl (.int .i64)) (s.T.getD 21 .dead), gV (.int .i64) (s.T.getD 22 .dead), gV (.int .i64) (s.T.getD 23 .dead), gVar T72 s.H[0]? with | some a0, some a5, some a11, some a12, some a13, some a21, some a22, some a23, some b0 => some (a0, a5, a11, a12, a13, a21, a22, a23, b0) | _, _, _, _, _, _, _, _, _ => none
noncomputable def keep6 : List Nat := [0, 5, 11, 12, 13, 21, 22, 23]
noncomputable def body6 : Code := bodyAt (loopsOf (bodyOf Try.f33)) 6
noncomputable def s0 (x5 : Int) : St := ⟨[.dead, .dead, .dead, .dead, .dead, .v (.int .i64) x5, .dead, .dead, .dead, .dead, .dead, .dead, .dead, .dead, .dead, .dead, .dead, .dead, .dead, .dead, .dead, .dead, .dead, .dead, .dead, .dead, .dead, .dead, .dead, .dead, .dead, .dead, .dead, .dead, .dead, .dead, .dead, .dead, .dead, .dead, .dead, .dead, .dead, .dead, .dead, .dead, .dead, .dead, .dead, .dead, .dead, .dead, .dead], []⟩
noncomputable def s1 (x0 : (List D30)) (x5 : Int) (x11 : (List D72)) (x12 : Int) (x13 : Int) (h0 : D72) : St := ⟨[.v (.sl T30) x0, .dead, .dead, .dead, .dead, .v (.int .i64) x5, .dead, .dead, .dead, .dead, .dead, .v (.sl T72) x11, .v (.int .i64) x12, .v (.int .i64) x13, .dead, .dead, .dead, .dead, .dead, .dead, .dead, .dead, .dead, .dead, .dead, .dead, .dead, .dead, .dead, .dead, .dead, .dead, .dead, .dead, .dead, .dead, .dead, .dead, .dead, .dead, .dead, .dead, .dead, .dead, .dead, .dead, .dead, .dead, .dead, .dead, .dead, .dead, .dead], [.var T72 h0 72]⟩
def Q6 : V6 → (Nat → St → Prop) → (St → Prop) → Prop := fun (cs, m, all, n, i, o, k, j, h) X R => 0 ≤ j ∧ j ≤ o.length ∧ o.length ≤ LB ∧ k = o.length ∧ (∀ y ∈ o, 0 ≤ y ∧ y < cs.length) ∧ X 2 (s1 cs (mn cs (o.drop j.toNat) m) all n i h)
def Q3 : V3 → (Nat → St → Prop) → (St → Prop) → Prop := fun (cs, m, all, n, i) X R => 0 ≤ i ∧ i ≤ all.length ∧ all.length ≤ LB ∧ n = all.length ∧ LOK cs all ∧ X 0 (s0 (mnA cs (all.drop i.toNat) m))
noncomputable def purs : List (Nat × (List Ty × (List AV → PV))) := [(41, (Go.Proofs.Ytdjdbjcapenjeaa.A.F41.ts, Go.Proofs.Ytdjdbjcapenjeaa.A.F41.G))]
noncomputable def callF (g : FuncId) : CF := fun _ _ _ => False
noncomputable def L3 : K → Nat → St → Prop := mkL dec3 st3 0 0 [] Q3
noncomputable def L6 : K → Nat → St → Prop := mkL dec6 st6 0 1 [0] Q6
noncomputable def loops : List (Nat × (List Nat × (K → Nat → St → Prop))) := [(3, (keep3, L3)), (6, (keep6, L6))]
noncomputable def C : Ctx := { ti := ti, meth := meth, can := can, pur := purOf purs, loops := fun i => seek loops i, gh := fun _ => [], xk := fun i => seek [(0, ([5], 0)), (2, ([0, 5, 11, 12, 13], 0))] i, rk := some ([4], 0) }
noncomputable def Round3 (x0 : (List D30)) (x5 : Int) (x11 : (List D72)) (x12 : Int) (x13 : Int) (N : St → Prop) (X : Nat → St → Prop) (R : St → Prop) : Prop :=
  (bif decide (x13 < x12) then (((0 : Int) ≤ x13) ∧ ((x13 < (↑x11.length : Int)) ∧ (((0 : Int) ≤ (x11.getD x13.toNat d72).snd.fst) ∧ (((x11.getD x13.toNat d72).snd.fst ≤ (↑(List.length (x11.getD x13.toNat d72).fst) : Int)) ∧ (st6 (x0, x5, x11, x12, x13, List.drop (Int.toNat (x11.getD x13.toNat d72).snd.fst) (x11.getD x13.toNat d72).fst, (↑(List.drop (Int.toNat (x11.getD x13.toNat d72).snd.fst) (x11.getD x13.toNat d72).fst).length : Int), (0 : Int), x11.getD x13.toNat d72) = st6 (x0, x5, x11, x12, x13, List.drop (Int.toNat (x11.getD x13.toNat d72).snd.fst) (x11.getD x13.toNat d72).fst, (↑(List.drop (Int.toNat (x11.getD x13.toNat d72).snd.fst) (x11.getD x13.toNat d72).fst).length : Int), (0 : Int), x11.getD x13.toNat d72) ∧ (((0 : Int) ≤ (0 : Int)) ∧ (((0 : Int) ≤ (↑(List.drop (Int.toNat (x11.getD x13.toNat d72).snd.fst) (x11.getD x13.toNat d72).fst).length : Int)) ∧ (((List.drop (Int.toNat (x11.getD x13.toNat d72).snd.fst) (x11.getD x13.toNat d72).fst).length ≤ LB) ∧ (((↑(List.drop (Int.toNat (x11.getD x13.toNat d72).snd.fst) (x11.getD x13.toNat d72).fst).length : Int) = (↑(List.drop (Int.toNat (x11.getD x13.toNat d72).snd.fst) (x11.getD x13.toNat d72).fst).length : Int)) ∧ ((∀ (y : Int), y ∈ List.drop (Int.toNat (x11.getD x13.toNat d72).snd.fst) (x11.getD x13.toNat d72).fst → (0 : Int) ≤ y ∧ y < (↑x0.length : Int)) ∧ N (st3 (x0, mn x0 (List.drop (Int.toNat (x11.getD x13.toNat d72).snd.fst) (x11.getD x13.toNat d72).fst) x5, x11, x12, IntKind.i64.wrap (x13 + (1 : Int)))))))))))))) else X 0 (s0 (x5)))
theorem round3 (x0 : (List D30)) (x5 : Int) (x11 : (List D72)) (x12 : Int) (x13 : Int) (N : St → Prop) (X : Nat → St → Prop) (R : St → Prop) : exec C callF body3 ⟨0, [0], fun s' => cond (Nat.ble 0 s'.H.length) (N (scrub keep3 0 s')) False, X, R⟩ (st3 (x0, x5, x11, x12, x13)) = Round3 x0 x5 x11 x12 x13 N X R := by kernel_rfl
noncomputable def Round6 (x0 : (List D30)) (x5 : Int) (x11 : (List D72)) (x12 : Int) (x13 : Int) (x21 : (List Int)) (x22 : Int) (x23 : Int) (h0 : D72) (N : St → Prop) (X : Nat → St → Prop) (R : St → Prop) : Prop :=
  (bif decide (x23 < x22) then (((0 : Int) ≤ x23) ∧ ((x23 < (↑x21.length : Int)) ∧ (((0 : Int) ≤ x21.getD x23.toNat (0 : Int)) ∧ ((x21.getD x23.toNat (0 : Int) < (↑x0.length : Int)) ∧ (bif A.F41.val (x0.getD (Int.toNat (x21.getD x23.toNat (0 : Int))) d30) then (bif decide (x5 < (0 : Int)) then N (st6 (x0, (x0.getD (Int.toNat (x21.getD x23.toNat (0 : Int))) d30).snd.snd.snd.snd.snd.snd.fst, x11, x12, x13, x21, x22, IntKind.i64.wrap (x23 + (1 : Int)), h0)) else (bif decide ((x0.getD (Int.toNat (x21.getD x23.toNat (0 : Int))) d30).snd.snd.snd.snd.snd.snd.fst < x5) then N (st6 (x0, (x0.getD (Int.toNat (x21.getD x23.toNat (0 : Int))) d30).snd.snd.snd.snd.snd.snd.fst, x11, x12, x13, x21, x22, IntKind.i64.wrap (x23 + (1 : Int)), h0)) else N (st6 (x0, x5, x11, x12, x13, x21, x22, IntKind.i64.wrap (x23 + (1 : Int)), h0)))) else N (st6 (x0, x5, x11, x12, x13, x21, x22, IntKind.i64.wrap (x23 + (1 : Int)), h0))))))) else X 2 (s1 (x0) (x5) (x11) (x12) (x13) (h0)))
theorem round6 (x0 : (List D30)) (x5 : Int) (x11 : (List D72)) (x12 : Int) (x13 : Int) (x21 : (List Int)) (x22 : Int) (x23 : Int) (h0 : D72) (N : St → Prop) (X : Nat → St → Prop) (R : St → Prop) : exec C callF body6 ⟨0, [1, 0], fun s' => cond (Nat.ble 1 s'.H.length) (N (scrub keep6 1 s')) False, X, R⟩ (st6 (x0, x5, x11, x12, x13, x21, x22, x23, h0)) = Round6 x0 x5 x11 x12 x13 x21 x22 x23 h0 N X R := by kernel_rfl
noncomputable def Main (calls : (List D30)) (all : (List D72)) (k : AV → Prop) : Prop :=
  (st3 (calls, (-1 : Int), all, (↑all.length : Int), (0 : Int)) = st3 (calls, (-1 : Int), all, (↑all.length : Int), (0 : Int)) ∧ (((0 : Int) ≤ (0 : Int)) ∧ (((0 : Int) ≤ (↑all.length : Int)) ∧ ((all.length ≤ LB) ∧ (((↑all.length : Int) = (↑all.length : Int)) ∧ ((LOK calls all) ∧ k (.v (.int .i64) (mnA calls all (-1 : Int)))))))))
theorem main (calls : (List D30)) (all : (List D72)) (k : AV → Prop) : (runFn C callF Try.f33 [.v (.sl (.pair (.int .u8) (.pair (.int .u64) (.pair (.pair (.int .u8) (.pair (.int .u64) (.pair (.int .u64) (.pair (.sl (.int .u8)) (.pair (.sl (.int .u8)) (.pair .bool (.pair (.int .u8) .unit))))))) (.pair (.int .u8) (.pair (.sl (.int .u8)) (.pair (.int .i64) (.pair (.int .i64) .unit)))))))) calls, .v (.sl (.pair (.sl (.int .i64)) (.pair (.int .i64) .unit))) all] [] (fun r H => coRes H [(.int .i64)] r k)) = Main calls all k := by kernel_rfl
theorem loop6 (v : V6) (X : Nat → St → Prop) (R : St → Prop) : Q6 v X R → ∃ m, loopN C callF keep6 1 body6 ⟨0, [0], fun _ => False, X, R⟩ m (st6 v) := by
  refine loop_ind (fun v => Q6 v X R) (fun (cs, m, all, n, i, o, k, j, h) => o.length - j.toNat) ?_ v
  rintro ⟨cs, m, all, n, i, o, k, j, h⟩ ⟨h0, h1, h2, rfl, hm, h4⟩ N hN
  rw [round6]
  obtain ⟨j, rfl⟩ : ∃ a : Nat, j = a := ⟨j.toNat, by omega⟩
  dsimp only at hN
  rw [Int.toNat_natCast] at h4
  have h2' : o.length ≤ 1073741824 := h2
  refine bif_d (fun hj => ?_) (fun hj => ?_)
  · have hn : j < o.length := by omega
    rw [drop_cons hn 0, mn] at h4
    rw [Int.toNat_natCast, w64n (by omega)]
    obtain ⟨b1, b2⟩ := hm _ (C.F9.getD_mem hn 0)
    have next : ∀ m', X 2 (s1 cs (mn cs (o.drop (j + 1)) m') all n i h) → N (st6 (cs, m', all, n, i, o, (o.length : Int), ((j + 1 : Nat) : Int), h)) := fun m' e =>
      hN (cs, m', all, n, i, o, (o.length : Int), ((j + 1 : Nat) : Int), h) ⟨by omega, by omega, h2, rfl, hm, by rw [Int.toNat_natCast]; exact e⟩ (by dsimp only; omega)
    refine ⟨by omega, by omega, b1, b2, bif_i (fun e => bif_d (fun e2 => ?_) (fun e2 => bif_d (fun e3 => ?_) (fun e3 => ?_))) (fun e => ?_)⟩
    · rw [e, cond_true, decide_eq_true e2, cond_true] at h4; exact next _ h4
    · rw [e, cond_true, decide_eq_false e2, cond_false, decide_eq_true e3, cond_true] at h4; exact next _ h4
    · rw [e, cond_true, decide_eq_false e2, cond_false, decide_eq_false e3, cond_false] at h4; exact next _ h4
    · rw [e, cond_false] at h4; exact next _ h4
  · rw [List.drop_eq_nil_of_le (by omega)] at h4
    exact h4
theorem loop3 (v : V3) (X : Nat → St → Prop) (R : St → Prop) : Q3 v X R → ∃ m, loopN C callF keep3 0 body3 ⟨0, [], fun _ => False, X, R⟩ m (st3 v) := by
  refine loop_ind (fun v => Q3 v X R) (fun (cs, m, all, n, i) => all.length - i.toNat) ?_ v
  rintro ⟨cs, m, all, n, i⟩ ⟨h0, h1, h2, rfl, hm, h4⟩ N hN
  rw [round3]
  obtain ⟨i, rfl⟩ : ∃ a : Nat, i = a := ⟨i.toNat, by omega⟩
  dsimp only at hN
  rw [Int.toNat_natCast] at h4
  have h2' : all.length ≤ 1073741824 := h2
  refine bif_d (fun hj => ?_) (fun hj => ?_)
  · have hn : i < all.length := by omega
    rw [drop_cons hn d72, mnA] at h4
    obtain ⟨g1, g2, g3, g4⟩ := hm _ (C.F9.getD_mem hn d72)
    rw [Int.toNat_natCast, w64n (by omega)]
    have hl : (List.drop (all.getD i d72).2.1.toNat (all.getD i d72).1).length ≤ LB := by rw [List.length_drop]; omega
    refine ⟨by omega, by omega, g1, g2, rfl, by omega, by omega, hl, rfl, fun y hy => g4 y (List.mem_of_mem_drop hy), ?_⟩
    exact hN (cs, mn cs (List.drop (all.getD i d72).2.1.toNat (all.getD i d72).1) m, all, (all.length : Int), ((i + 1 : Nat) : Int)) ⟨by omega, by omega, h2, rfl, hm, by rw [Int.toNat_natCast]; exact h4⟩ (by dsimp only; omega)
  · rw [List.drop_eq_nil_of_le (by omega)] at h4
    exact h4
theorem spec (cs : List D30) (all : List D72) (k : AV → Prop) (h : AllP [all.length ≤ LB, LOK cs all]) (hk : k (.v (.int .i64) (mnA cs all (-1)))) : Main cs all k := ⟨rfl, by omega, by omega, h.1, rfl, h.2.1, hk⟩
noncomputable def ts : List Ty := [(.sl T30), (.sl T72)]
noncomputable def G : List AV → PV := pg2 (.sl T30) (.sl T72) (fun calls all => [all.length ≤ LB, LOK calls all]) (fun calls all => .v (.int .i64) (mnA calls all (-1)))
theorem loopsOK : LoopsOK C callF (bodyOf Try.f33) := loopsOK_seek (tbl := loops) (fun _ => rfl) (by kernel_rfl) (List.forall_mem_cons.2 ⟨mkL_ok loop3, List.forall_mem_cons.2 ⟨mkL_ok loop6, fun _ h => nomatch h⟩⟩)
theorem pursOK : ∀ g ts F, C.pur g = some (ts, F) → SoundP Try.prog g F := purOf_ok (l := purs) (List.forall_mem_cons.2 ⟨Go.Proofs.Ytdjdbjcapenjeaa.A.F41.ok, fun _ h => nomatch h⟩)
theorem cfsOK : ∀ g, SoundF Try.prog g (callF g) := fun g => soundF_none g
theorem ok : SoundP Try.prog 33 G := by
  unfold G
  refine soundP_pg2 (soundF_run (C := C) (callF := callF) (tabOK C rfl rfl rfl) cfsOK pursOK Try.func33 (by kernel_rfl) loopsOK) [(.int .i64)] fun calls all h => ?_
  rw [main]
  exact spec calls all _ h rfl
end F33

end Go.Proofs.Ytdjdbjcapenjeaa.M
