/- The small functions of layer 14, each by one contract. -/
import Derived.Test.YtdjdbjcapenjeaaLinP
import Derived.Test.YtdjdbjcapenjeaaLinF
import Derived.Test.YtdjdbjcapenjeaaLinB0
import Derived.Test.YtdjdbjcapenjeaaLinB1
import Derived.Test.YtdjdbjcapenjeaaLinB2
import Derived.Test.YtdjdbjcapenjeaaLinB3
import Derived.Test.YtdjdbjcapenjeaaLinB4
import Derived.Test.YtdjdbjcapenjeaaLinB5
import Derived.Test.YtdjdbjcapenjeaaLinB6
import Derived.Test.YtdjdbjcapenjeaaLinB7
namespace Go.Proofs.Ytdjdbjcapenjeaa.P
open Go.RowKit Go.Proofs.YtdjdbjcapenjeaaW.PrintWords Go.Proofs.YtdjdbjcapenjeaaW.PrintLast Go.Proofs.YtdjdbjcapenjeaaW.PrintMore
set_option linter.unusedVariables false
set_option linter.unusedSimpArgs false
set_option maxRecDepth 100000
theorem answer_any (q : S27) (A5 : Option Addr) (c5 : Nat) (A6 : Option Addr) (c6 : Nat) (xh : Bool) (Ax : Option Addr) (cx : Nat) (lx : List Int) (w : World) (g5 : RdL w A5 c5 q.f3) (g6 : RdL w A6 c6 q.f4) (gx : RdL w Ax cx lx) (hn : lx.length < 4611686018427387904) :
    ∃ Ay cy, RdL w Ay cy (answerV q xh lx).2.2 ∧ ∀ W, Below w.heap.size w W → Calls Try.prog 46 #[.agg #[.int .u8 q.f0, .int .u64 q.f1, .int .u64 q.f2, .slice A5 q.f3.length c5, .slice A6 q.f4.length c6, .bool q.f5, .int .u8 q.f6], .agg #[.bool xh, .slice Ax lx.length cx]] W fun e w' => e = .returned (.tuple #[.int .i64 (answerV q xh lx).1, .agg #[.bool (answerV q xh lx).2.1, .slice Ay (answerV q xh lx).2.2.length cy]]) ∧ Below W.heap.size W w' := by
  cases k2 : (q.f0 == 2) with
  | true =>
    have hv : answerV q xh lx = (1, true, q.f3) := by simp [answerV, *]
    rw [hv]
    refine ⟨A5, c5, g5, fun W hb => ?_⟩
    exact answer_set q A5 c5 A6 c6 xh Ax cx lx W (lC g5 hb) (lC g6 hb) (lC gx hb) hn k2
  | false =>
  cases k3 : (q.f0 == 3) with
  | true =>
    cases xh with
    | true =>
      have hv : answerV q true lx = (1, false, []) := by simp [answerV, *]
      rw [hv]
      refine ⟨none, 0, RdL.nil w, fun W hb => ?_⟩
      exact answer_delt q A5 c5 A6 c6 Ax cx lx W (lC g5 hb) (lC g6 hb) (lC gx hb) hn k2 k3
    | false =>
      have hv : answerV q false lx = (2, false, []) := by simp [answerV, *]
      rw [hv]
      refine ⟨none, 0, RdL.nil w, fun W hb => ?_⟩
      exact answer_delf q A5 c5 A6 c6 Ax cx lx W (lC g5 hb) (lC g6 hb) (lC gx hb) hn k2 k3
  | false =>
  cases k4 : (q.f0 == 4) with
  | true =>
    cases xh with
    | true =>
      cases h5 : q.f5 with
      | false =>
        have hv : answerV q true lx = (3, true, lx) := by simp [answerV, *]
        rw [hv]
        refine ⟨Ax, cx, gx, fun W hb => ?_⟩
        exact answer_castf q A5 c5 A6 c6 Ax cx lx W (lC g5 hb) (lC g6 hb) (lC gx hb) hn k2 k3 k4
      | true =>
        cases hs : decide (lx = q.f4) with
        | true =>
          have hv : answerV q true lx = (1, true, q.f3) := by simp [answerV, *]
          rw [hv]
          refine ⟨A5, c5, g5, fun W hb => ?_⟩
          exact answer_cassame q A5 c5 A6 c6 Ax cx lx W (lC g5 hb) (lC g6 hb) (lC gx hb) hn k2 k3 k4 hs
        | false =>
          have hv : answerV q true lx = (3, true, lx) := by simp [answerV, *]
          rw [hv]
          refine ⟨Ax, cx, gx, fun W hb => ?_⟩
          exact answer_casdiff q A5 c5 A6 c6 Ax cx lx W (lC g5 hb) (lC g6 hb) (lC gx hb) hn k2 k3 k4 hs
    | false =>
      cases h5 : q.f5 with
      | true =>
        have hv : answerV q false lx = (3, false, lx) := by simp [answerV, *]
        rw [hv]
        refine ⟨Ax, cx, gx, fun W hb => ?_⟩
        exact answer_casft q A5 c5 A6 c6 Ax cx lx W (lC g5 hb) (lC g6 hb) (lC gx hb) hn k2 k3 k4
      | false =>
        have hv : answerV q false lx = (1, true, q.f3) := by simp [answerV, *]
        rw [hv]
        refine ⟨A5, c5, g5, fun W hb => ?_⟩
        exact answer_casff q A5 c5 A6 c6 Ax cx lx W (lC g5 hb) (lC g6 hb) (lC gx hb) hn k2 k3 k4
  | false =>
    cases xh with
    | true =>
      have hv : answerV q true lx = (1, true, lx) := by simp [answerV, *]
      rw [hv]
      refine ⟨Ax, cx, gx, fun W hb => ?_⟩
      exact answer_gett q A5 c5 A6 c6 Ax cx lx W (lC g5 hb) (lC g6 hb) (lC gx hb) hn k2 k3 k4
    | false =>
      have hv : answerV q false lx = (2, false, lx) := by simp [answerV, *]
      rw [hv]
      refine ⟨Ax, cx, gx, fun W hb => ?_⟩
      exact answer_getf q A5 c5 A6 c6 Ax cx lx W (lC g5 hb) (lC g6 hb) (lC gx hb) hn k2 k3 k4
theorem Play_any (c : S30) (A5 : Option Addr) (c5 : Nat) (A6 : Option Addr) (c6 : Nat) (A10 : Option Addr) (c10 : Nat) (xh : Bool) (Ax : Option Addr) (cx : Nat) (lx : List Int) (w : World) (g5 : RdL w A5 c5 c.f2.f3) (g6 : RdL w A6 c6 c.f2.f4) (g10 : RdL w A10 c10 c.f4) (gx : RdL w Ax cx lx) (hn : lx.length < 4611686018427387904) (b0 : 0 ≤ c.f3) (b1 : c.f3 ≤ 255) :
    ∃ Ay cy, RdL w Ay cy (PlayV c xh lx).2.2 ∧ ∀ W, Below w.heap.size w W → Calls Try.prog 26 #[.agg #[.int .u8 c.f0, .int .u64 c.f1, .int .u8 c.f2.f0, .int .u64 c.f2.f1, .int .u64 c.f2.f2, .slice A5 c.f2.f3.length c5, .slice A6 c.f2.f4.length c6, .bool c.f2.f5, .int .u8 c.f2.f6, .int .u8 c.f3, .slice A10 c.f4.length c10, .int .i64 c.f5, .int .i64 c.f6], .agg #[.bool xh, .slice Ax lx.length cx]] W fun e w' => e = .returned (.tuple #[.bool (PlayV c xh lx).1, .agg #[.bool (PlayV c xh lx).2.1, .slice Ay (PlayV c xh lx).2.2.length cy]]) ∧ Below W.heap.size W w' := by
  obtain ⟨Ay, cy, gy, ha⟩ := answer_any c.f2 A5 c5 A6 c6 xh Ax cx lx w g5 g6 gx hn
  generalize hA : answerV c.f2 xh lx = a at gy ha
  obtain ⟨st, hy, ly⟩ := a
  simp only at gy ha
  by_cases hk : c.f6 = -1
  · skip
    have hv : PlayV c xh lx = (true, hy, ly) := by simp [PlayV, hA, *]
    rw [hv]
    refine ⟨Ay, cy, gy, fun W hb => ?_⟩
    exact Play_u c A5 c5 A6 c6 A10 c10 xh st hy Ay cy ly Ax cx lx W (lC g5 hb) (lC g6 hb) (lC g10 hb) (lC gx hb) hn b0 b1 (by simp [*]) (fun W' hb' => ha W' (below_step hb hb'))
  by_cases h4 : c.f3 = 4
  · cases xh with
    | true =>
      have hv : PlayV c true lx = (false, true, lx) := by simp [PlayV, hA, *]
      rw [hv]
      refine ⟨Ax, cx, gx, fun W hb => ?_⟩
      exact Play_nct c A5 c5 A6 c6 A10 c10 st hy Ay cy ly Ax cx lx W (lC g5 hb) (lC g6 hb) (lC g10 hb) (lC gx hb) hn b0 b1 (by simp [*]) (fun W' hb' => ha W' (below_step hb hb')) (by simp [*])
    | false =>
      have hv : PlayV c false lx = ((st == 1), false, lx) := by simp [PlayV, hA, *]
      rw [hv]
      refine ⟨Ax, cx, gx, fun W hb => ?_⟩
      exact Play_ncf c A5 c5 A6 c6 A10 c10 st (st == 1) hy Ay cy ly Ax cx lx W (lC g5 hb) (lC g6 hb) (lC g10 hb) (lC gx hb) hn b0 b1 (by simp [*]) (fun W' hb' => ha W' (below_step hb hb')) (by simp [*]) rfl
  by_cases hne : c.f3 = st
  · have h4' : ¬ st = 4 := fun h => h4 (hne.trans h)
    by_cases h1 : c.f2.f0 = 1
    · by_cases h2 : st = 1
      · subst h2
        cases hs : decide (lx = c.f4) with
        | true =>
          have hs' := of_decide_eq_true hs
          have hv : PlayV c xh lx = (true, hy, ly) := by unfold PlayV; rw [hA, if_neg hk, if_neg h4, if_neg (by simp [hne]), if_neg (fun h => h.2.2 hs')]
          rw [hv]
          refine ⟨Ay, cy, gy, fun W hb => ?_⟩
          exact Play_get c A5 c5 A6 c6 A10 c10 xh hy Ay cy ly Ax cx lx W (lC g5 hb) (lC g6 hb) (lC g10 hb) (lC gx hb) hn b0 b1 (by simp [*]) (fun W' hb' => ha W' (below_step hb hb')) (by simp [*]) (by simp [*]) (by simp [*]) hs
        | false =>
          have hs' := of_decide_eq_false hs
          have hv : PlayV c xh lx = (false, false, []) := by simp [PlayV, hA, *]
          rw [hv]
          refine ⟨none, 0, RdL.nil w, fun W hb => ?_⟩
          exact Play_getno c A5 c5 A6 c6 A10 c10 xh hy Ay cy ly Ax cx lx W (lC g5 hb) (lC g6 hb) (lC g10 hb) (lC gx hb) hn b0 b1 (by simp [*]) (fun W' hb' => ha W' (below_step hb hb')) (by simp [*]) (by simp [*]) (by simp [*]) hs
      · skip
        have hv : PlayV c xh lx = (true, hy, ly) := by simp [PlayV, hA, *]
        rw [hv]
        refine ⟨Ay, cy, gy, fun W hb => ?_⟩
        exact Play_ok2 c A5 c5 A6 c6 A10 c10 xh st hy Ay cy ly Ax cx lx W (lC g5 hb) (lC g6 hb) (lC g10 hb) (lC gx hb) hn b0 b1 (by simp [*]) (fun W' hb' => ha W' (below_step hb hb')) (by simp [*]) (by simp [*]) (by simp [*]) (by simp [*])
    · skip
      have hv : PlayV c xh lx = (true, hy, ly) := by simp [PlayV, hA, *]
      rw [hv]
      refine ⟨Ay, cy, gy, fun W hb => ?_⟩
      exact Play_ok1 c A5 c5 A6 c6 A10 c10 xh st hy Ay cy ly Ax cx lx W (lC g5 hb) (lC g6 hb) (lC g10 hb) (lC gx hb) hn b0 b1 (by simp [*]) (fun W' hb' => ha W' (below_step hb hb')) (by simp [*]) (by simp [*]) (by simp [*])
  · skip
    have hv : PlayV c xh lx = (false, false, []) := by simp [PlayV, hA, *]
    rw [hv]
    refine ⟨none, 0, RdL.nil w, fun W hb => ?_⟩
    exact Play_ne c A5 c5 A6 c6 A10 c10 xh st hy Ay cy ly Ax cx lx W (lC g5 hb) (lC g6 hb) (lC g10 hb) (lC gx hb) hn b0 b1 (by simp [*]) (fun W' hb' => ha W' (below_step hb hb')) (by simp [*]) (by simp [*])
theorem play_any (c : S30) (A5 : Option Addr) (c5 : Nat) (A6 : Option Addr) (c6 : Nat) (A10 : Option Addr) (c10 : Nat) (xh : Bool) (Ax : Option Addr) (cx : Nat) (lx : List Int) (w : World) (g5 : RdL w A5 c5 c.f2.f3) (g6 : RdL w A6 c6 c.f2.f4) (g10 : RdL w A10 c10 c.f4) (gx : RdL w Ax cx lx) :
    ∃ Ay cy, RdL w Ay cy (playV c xh lx).1.2 ∧ ∀ W b o, Below w.heap.size w W → PtCall W b o c A5 c5 A6 c6 A10 c10 → Calls Try.prog 29 #[.pointer (some ⟨b, o, none⟩), .agg #[.bool xh, .slice Ax lx.length cx]] W fun e w' => e = .returned (.tuple #[.agg #[.bool (playV c xh lx).1.1, .slice Ay (playV c xh lx).1.2.length cy], .bool (playV c xh lx).2]) ∧ Below W.heap.size W w' := by
  cases k1 : (c.f2.f0 == 1) with
  | true =>
    cases kn : (c.f6 != -1) with
    | false =>
      cases s1 : (c.f3 == 1) with
      | true =>
        have hv : playV c xh lx = ((xh, lx), true) := by simp [playV, *]
        rw [hv]
        refine ⟨Ax, cx, gx, fun W b o hb hp => ?_⟩
        exact play_get_ut b o c Ax cx lx A5 c5 A6 c6 A10 c10 W xh hp (lC gx hb) (by assumption) (by assumption) (by assumption)
      | false =>
        have hv : playV c xh lx = ((xh, lx), true) := by simp [playV, *]
        rw [hv]
        refine ⟨Ax, cx, gx, fun W b o hb hp => ?_⟩
        exact play_get_uf b o c Ax cx lx A5 c5 A6 c6 A10 c10 W xh hp (lC gx hb) (by assumption) (by assumption) (by assumption)
    | true =>
      cases s1 : (c.f3 == 1) with
      | true =>
        cases xh with
        | false =>
          have hv : playV c false lx = ((false, []), false) := by simp [playV, *]
          rw [hv]
          refine ⟨none, 0, RdL.nil w, fun W b o hb hp => ?_⟩
          exact play_get_ne1 b o c Ax cx lx A5 c5 A6 c6 A10 c10 W hp (lC gx hb) (by assumption) (by assumption) (by assumption)
        | true =>
          cases e1 : eqB lx c.f4 with
          | true =>
            have hv : playV c true lx = ((true, lx), true) := by simp [playV, *]
            rw [hv]
            refine ⟨Ax, cx, gx, fun W b o hb hp => ?_⟩
            exact play_get_tt b o c Ax cx lx A5 c5 A6 c6 A10 c10 W hp (lC gx hb) (by assumption) (by assumption) (by assumption) (by assumption)
          | false =>
            have hv : playV c true lx = ((false, []), false) := by simp [playV, *]
            rw [hv]
            refine ⟨none, 0, RdL.nil w, fun W b o hb hp => ?_⟩
            exact play_get_tf b o c Ax cx lx A5 c5 A6 c6 A10 c10 W hp (lC gx hb) (by assumption) (by assumption) (by assumption) (by assumption)
      | false =>
        cases xh with
        | true =>
          have hv : playV c true lx = ((false, []), false) := by simp [playV, *]
          rw [hv]
          refine ⟨none, 0, RdL.nil w, fun W b o hb hp => ?_⟩
          exact play_get_ne2 b o c Ax cx lx A5 c5 A6 c6 A10 c10 W hp (lC gx hb) (by assumption) (by assumption) (by assumption)
        | false =>
          have hv : playV c false lx = ((false, lx), true) := by simp [playV, *]
          rw [hv]
          refine ⟨Ax, cx, gx, fun W b o hb hp => ?_⟩
          exact play_get_ff b o c Ax cx lx A5 c5 A6 c6 A10 c10 W hp (lC gx hb) (by assumption) (by assumption) (by assumption)
  | false =>
  cases k2 : (c.f2.f0 == 2) with
  | true =>
    cases s1 : (c.f3 == 1) with
    | true =>
      have hv : playV c xh lx = ((true, c.f2.f3), true) := by simp [playV, *]
      rw [hv]
      refine ⟨A5, c5, g5, fun W b o hb hp => ?_⟩
      exact play_set_ok b o c Ax cx lx A5 c5 A6 c6 A10 c10 W (c.f6 != -1) xh hp (lC gx hb) rfl (by assumption) (by assumption) (by assumption)
    | false =>
      cases kn : (c.f6 != -1) with
      | false =>
        have hv : playV c xh lx = ((true, c.f2.f3), true) := by simp [playV, *]
        rw [hv]
        refine ⟨A5, c5, g5, fun W b o hb hp => ?_⟩
        exact play_set_u b o c Ax cx lx A5 c5 A6 c6 A10 c10 W xh hp (lC gx hb) (by assumption) (by assumption) (by assumption) (by assumption)
      | true =>
        have hv : playV c xh lx = ((xh, lx), !xh) := by simp [playV, *]
        rw [hv]
        refine ⟨Ax, cx, gx, fun W b o hb hp => ?_⟩
        exact play_set_no b o c Ax cx lx A5 c5 A6 c6 A10 c10 W xh hp (lC gx hb) (by assumption) (by assumption) (by assumption) (by assumption)
  | false =>
  cases k3 : (c.f2.f0 == 3) with
  | true =>
    cases kn : (c.f6 != -1) with
    | false =>
      cases s1 : (c.f3 == 1) with
      | true =>
        have hv : playV c xh lx = ((false, []), true) := by simp [playV, *]
        rw [hv]
        refine ⟨none, 0, RdL.nil w, fun W b o hb hp => ?_⟩
        exact play_del_ut b o c Ax cx lx A5 c5 A6 c6 A10 c10 W xh hp (lC gx hb) (by assumption) (by assumption) (by assumption) (by assumption) (by assumption)
      | false =>
        have hv : playV c xh lx = ((false, []), true) := by simp [playV, *]
        rw [hv]
        refine ⟨none, 0, RdL.nil w, fun W b o hb hp => ?_⟩
        exact play_del_uf b o c Ax cx lx A5 c5 A6 c6 A10 c10 W xh hp (lC gx hb) (by assumption) (by assumption) (by assumption) (by assumption) (by assumption)
    | true =>
      cases s1 : (c.f3 == 1) with
      | true =>
        have hv : playV c xh lx = ((false, []), true == xh) := by simp [playV, *]
        rw [hv]
        refine ⟨none, 0, RdL.nil w, fun W b o hb hp => ?_⟩
        exact play_del_kt b o c Ax cx lx A5 c5 A6 c6 A10 c10 W xh hp (lC gx hb) (by assumption) (by assumption) (by assumption) (by assumption) (by assumption)
      | false =>
        have hv : playV c xh lx = ((false, []), false == xh) := by simp [playV, *]
        rw [hv]
        refine ⟨none, 0, RdL.nil w, fun W b o hb hp => ?_⟩
        exact play_del_kf b o c Ax cx lx A5 c5 A6 c6 A10 c10 W xh hp (lC gx hb) (by assumption) (by assumption) (by assumption) (by assumption) (by assumption)
  | false =>
  cases k4 : (c.f2.f0 == 4) with
  | true =>
    cases s1 : (c.f3 == 1) with
    | true =>
      cases e1 : expectedV c.f2.f5 c.f2.f4 xh lx with
      | true =>
        have hv : playV c xh lx = ((true, c.f2.f3), true) := by simp [playV, *]
        rw [hv]
        refine ⟨A5, c5, g5, fun W b o hb hp => ?_⟩
        exact play_cas_s b o c Ax cx lx A5 c5 A6 c6 A10 c10 W (c.f6 != -1) xh hp (lC gx hb) rfl (by assumption) (by assumption) (by assumption) (by assumption) (by assumption) (by assumption)
      | false =>
        have s3 : (c.f3 == 3) = false := by have := beq_iff_eq.mp s1; rw [this]; rfl
        have s4 : (c.f3 == 4) = false := by have := beq_iff_eq.mp s1; rw [this]; rfl
        cases kn : (c.f6 != -1) with
        | false =>
          have hv : playV c xh lx = ((xh, lx), true) := by simp [playV, *]
          rw [hv]
          refine ⟨Ax, cx, gx, fun W b o hb hp => ?_⟩
          exact play_cas_ut b o c Ax cx lx A5 c5 A6 c6 A10 c10 W xh hp (lC gx hb) (by assumption) (by assumption) (by assumption) (by assumption) (by assumption) (by assumption) (by assumption)
        | true =>
          have hv : playV c xh lx = ((xh, lx), false) := by simp [playV, *]
          rw [hv]
          refine ⟨Ax, cx, gx, fun W b o hb hp => ?_⟩
          exact play_cas_ftf b o c Ax cx lx A5 c5 A6 c6 A10 c10 W xh hp (lC gx hb) (by assumption) (by assumption) (by assumption) (by assumption) (by assumption) (by assumption) (by assumption) (by assumption) (by assumption)
    | false =>
      cases e1 : expectedV c.f2.f5 c.f2.f4 xh lx with
      | true =>
        cases kn : (c.f6 != -1) with
        | false =>
          have hv : playV c xh lx = ((true, c.f2.f3), true) := by simp [playV, *]
          rw [hv]
          refine ⟨A5, c5, g5, fun W b o hb hp => ?_⟩
          exact play_cas_su b o c Ax cx lx A5 c5 A6 c6 A10 c10 W xh hp (lC gx hb) (by assumption) (by assumption) (by assumption) (by assumption) (by assumption) (by assumption) (by assumption)
        | true =>
          cases s3 : (c.f3 == 3) with
          | true =>
            have hv : playV c xh lx = ((xh, lx), !true) := by simp [playV, *]
            rw [hv]
            refine ⟨Ax, cx, gx, fun W b o hb hp => ?_⟩
            exact play_cas_dft b o c Ax cx lx A5 c5 A6 c6 A10 c10 W xh hp (lC gx hb) (by assumption) (by assumption) (by assumption) (by assumption) (by assumption) (by assumption) (by assumption) (by assumption)
          | false =>
            cases s4 : (c.f3 == 4) with
            | true =>
              have hv : playV c xh lx = ((xh, lx), !xh) := by simp [playV, *]
              rw [hv]
              refine ⟨Ax, cx, gx, fun W b o hb hp => ?_⟩
              exact play_cas_eft b o c Ax cx lx A5 c5 A6 c6 A10 c10 W xh hp (lC gx hb) (by assumption) (by assumption) (by assumption) (by assumption) (by assumption) (by assumption) (by assumption) (by assumption) (by assumption)
            | false =>
              have hv : playV c xh lx = ((xh, lx), false) := by simp [playV, *]
              rw [hv]
              refine ⟨Ax, cx, gx, fun W b o hb hp => ?_⟩
              exact play_cas_fft b o c Ax cx lx A5 c5 A6 c6 A10 c10 W xh hp (lC gx hb) (by assumption) (by assumption) (by assumption) (by assumption) (by assumption) (by assumption) (by assumption) (by assumption) (by assumption)
      | false =>
        cases kn : (c.f6 != -1) with
        | false =>
          have hv : playV c xh lx = ((xh, lx), true) := by simp [playV, *]
          rw [hv]
          refine ⟨Ax, cx, gx, fun W b o hb hp => ?_⟩
          exact play_cas_uf b o c Ax cx lx A5 c5 A6 c6 A10 c10 W xh hp (lC gx hb) (by assumption) (by assumption) (by assumption) (by assumption) (by assumption) (by assumption) (by assumption)
        | true =>
          cases s3 : (c.f3 == 3) with
          | true =>
            have hv : playV c xh lx = ((xh, lx), !false) := by simp [playV, *]
            rw [hv]
            refine ⟨Ax, cx, gx, fun W b o hb hp => ?_⟩
            exact play_cas_dff b o c Ax cx lx A5 c5 A6 c6 A10 c10 W xh hp (lC gx hb) (by assumption) (by assumption) (by assumption) (by assumption) (by assumption) (by assumption) (by assumption) (by assumption)
          | false =>
            cases s4 : (c.f3 == 4) with
            | true =>
              have hv : playV c xh lx = ((xh, lx), !xh) := by simp [playV, *]
              rw [hv]
              refine ⟨Ax, cx, gx, fun W b o hb hp => ?_⟩
              exact play_cas_eff b o c Ax cx lx A5 c5 A6 c6 A10 c10 W xh hp (lC gx hb) (by assumption) (by assumption) (by assumption) (by assumption) (by assumption) (by assumption) (by assumption) (by assumption) (by assumption)
            | false =>
              have hv : playV c xh lx = ((xh, lx), false) := by simp [playV, *]
              rw [hv]
              refine ⟨Ax, cx, gx, fun W b o hb hp => ?_⟩
              exact play_cas_fff b o c Ax cx lx A5 c5 A6 c6 A10 c10 W xh hp (lC gx hb) (by assumption) (by assumption) (by assumption) (by assumption) (by assumption) (by assumption) (by assumption) (by assumption) (by assumption)
  | false =>
    cases s1 : (c.f3 == 1) with
    | true =>
      have hv : playV c xh lx = ((false, []), false) := by simp [playV, *]
      rw [hv]
      refine ⟨none, 0, RdL.nil w, fun W b o hb hp => ?_⟩
      exact play_othert b o c Ax cx lx A5 c5 A6 c6 A10 c10 W (c.f6 != -1) xh hp (lC gx hb) rfl (by assumption) (by assumption) (by assumption) (by assumption) (by assumption) (by assumption)
    | false =>
      have hv : playV c xh lx = ((false, []), false) := by simp [playV, *]
      rw [hv]
      refine ⟨none, 0, RdL.nil w, fun W b o hb hp => ?_⟩
      exact play_otherf b o c Ax cx lx A5 c5 A6 c6 A10 c10 W (c.f6 != -1) xh hp (lC gx hb) rfl (by assumption) (by assumption) (by assumption) (by assumption) (by assumption) (by assumption)
end Go.Proofs.Ytdjdbjcapenjeaa.P
