/- Both Steps of layer 14 by one contract; LinearSteps answers true. -/
import Derived.Test.YtdjdbjcapenjeaaLinG
import Derived.Test.YtdjdbjcapenjeaaPx5
namespace Go.Proofs.Ytdjdbjcapenjeaa.P
open Go.RowKit Go.Proofs.YtdjdbjcapenjeaaW.PrintWords Go.Proofs.YtdjdbjcapenjeaaW.PrintLast Go.Proofs.YtdjdbjcapenjeaaW.PrintMore
set_option linter.unusedVariables false
set_option linter.unusedSimpArgs false
theorem MayBe_calls (c : S30) (A5 : Option Addr) (c5 : Nat) (A6 : Option Addr) (c6 : Nat) (A10 : Option Addr) (c10 : Nat) (b : Bool) (w : World) (g5 : RdL w A5 c5 c.f2.f3) (g6 : RdL w A6 c6 c.f2.f4) (g10 : RdL w A10 c10 c.f4) (hb : mbV c = b) : Calls Try.prog 25 #[.agg #[.int .u8 c.f0, .int .u64 c.f1, .int .u8 c.f2.f0, .int .u64 c.f2.f1, .int .u64 c.f2.f2, .slice A5 c.f2.f3.length c5, .slice A6 c.f2.f4.length c6, .bool c.f2.f5, .int .u8 c.f2.f6, .int .u8 c.f3, .slice A10 c.f4.length c10, .int .i64 c.f5, .int .i64 c.f6]] w fun e w' => e = .returned (.bool b) ∧ Below w.heap.size w w' :=
  shardref14_MayBe.calls 5 c.f0 c.f1 c.f2.f0 c.f2.f1 c.f2.f2 A5 c5 c.f2.f3 A6 c6 c.f2.f4 c.f2.f5 c.f2.f6 c.f3 A10 c10 c.f4 c.f5 c.f6 b w g5.2 g5.1 g6.2 g6.1 g10.2 g10.1 (by rw [MayBe_f, hb])
theorem mayBe_calls (c : S30) (A5 : Option Addr) (c5 : Nat) (A6 : Option Addr) (c6 : Nat) (A10 : Option Addr) (c10 : Nat) (b : Bool) (w : World) (g5 : RdL w A5 c5 c.f2.f3) (g6 : RdL w A6 c6 c.f2.f4) (g10 : RdL w A10 c10 c.f4) (hb : mbV c = b) : Calls Try.prog 27 #[.agg #[.int .u8 c.f0, .int .u64 c.f1, .int .u8 c.f2.f0, .int .u64 c.f2.f1, .int .u64 c.f2.f2, .slice A5 c.f2.f3.length c5, .slice A6 c.f2.f4.length c6, .bool c.f2.f5, .int .u8 c.f2.f6, .int .u8 c.f3, .slice A10 c.f4.length c10, .int .i64 c.f5, .int .i64 c.f6]] w fun e w' => e = .returned (.bool b) ∧ Below w.heap.size w w' :=
  linear_mayBe.calls 9 c.f0 c.f1 c.f2.f0 c.f2.f1 c.f2.f2 A5 c5 c.f2.f3 A6 c6 c.f2.f4 c.f2.f5 c.f2.f6 c.f3 A10 c10 c.f4 c.f5 c.f6 b w g5.2 g5.1 g6.2 g6.1 g10.2 g10.1 (by rw [mayBe_f, hb])
theorem RStep_any (c : S30) (A5 : Option Addr) (c5 : Nat) (A6 : Option Addr) (c6 : Nat) (A10 : Option Addr) (c10 : Nat) (xh : Bool) (Av : Option Addr) (cv : Nat) (lv : List Int) (w : World) (g5 : RdL w A5 c5 c.f2.f3) (g6 : RdL w A6 c6 c.f2.f4) (g10 : RdL w A10 c10 c.f4) (gv : RdL w Av cv lv) (hn : lv.length < 4611686018427387904) (b0 : 0 ≤ c.f3) (b1 : c.f3 ≤ 255) :
    ∃ Ay cy, RdL w Ay cy (stepR c xh lv).2.2 ∧ ∀ W, Below w.heap.size w W → Calls Try.prog 8 #[.agg #[.int .u8 c.f0, .int .u64 c.f1, .int .u8 c.f2.f0, .int .u64 c.f2.f1, .int .u64 c.f2.f2, .slice A5 c.f2.f3.length c5, .slice A6 c.f2.f4.length c6, .bool c.f2.f5, .int .u8 c.f2.f6, .int .u8 c.f3, .slice A10 c.f4.length c10, .int .i64 c.f5, .int .i64 c.f6], .bool xh, .slice Av lv.length cv] W fun e w' => e = .returned (.tuple #[.bool (stepR c xh lv).1, .bool (stepR c xh lv).2.1, .slice Ay (stepR c xh lv).2.2.length cy]) ∧ Below W.heap.size W w' := by
  obtain ⟨Ay, cy, gy, hp⟩ := Play_any c A5 c5 A6 c6 A10 c10 xh Av cv lv w g5 g6 g10 gv hn b0 b1
  generalize hA : PlayV c xh lv = a at gy hp
  obtain ⟨ok, hy, ly⟩ := a
  simp only at gy hp
  cases hm : mbV c with
  | false =>
    have hv : stepR c xh lv = (false, false, []) := by simp [stepR, hm]
    rw [hv]
    refine ⟨none, 0, RdL.nil w, fun W hb => ?_⟩
    cases hk : (c.f2.f0 == 5) with
    | true => exact RStep_mt c A5 c5 A6 c6 A10 c10 xh Av cv lv ok hy Ay cy ly W (lC g5 hb) (lC g6 hb) (lC g10 hb) (lC gv hb) (fun W' hb' => MayBe_calls c A5 c5 A6 c6 A10 c10 false W' (lC (lC g5 hb) hb') (lC (lC g6 hb) hb') (lC (lC g10 hb) hb') hm) (fun W' hb' => hp W' (below_step hb hb')) hk
    | false => exact RStep_mf c A5 c5 A6 c6 A10 c10 xh Av cv lv ok hy Ay cy ly W (lC g5 hb) (lC g6 hb) (lC g10 hb) (lC gv hb) (fun W' hb' => MayBe_calls c A5 c5 A6 c6 A10 c10 false W' (lC (lC g5 hb) hb') (lC (lC g6 hb) hb') (lC (lC g10 hb) hb') hm) (fun W' hb' => hp W' (below_step hb hb')) hk
  | true =>
    cases hk : (c.f2.f0 == 5) with
    | true =>
      have hv : stepR c xh lv = (false, false, []) := by simp [stepR, beq_iff_eq.mp hk]
      rw [hv]
      refine ⟨none, 0, RdL.nil w, fun W hb => ?_⟩
      exact RStep_k c A5 c5 A6 c6 A10 c10 xh Av cv lv ok hy Ay cy ly W (lC g5 hb) (lC g6 hb) (lC g10 hb) (lC gv hb) (fun W' hb' => MayBe_calls c A5 c5 A6 c6 A10 c10 true W' (lC (lC g5 hb) hb') (lC (lC g6 hb) hb') (lC (lC g10 hb) hb') hm) (fun W' hb' => hp W' (below_step hb hb')) hk
    | false =>
      have hk' : ¬ c.f2.f0 = 5 := by simpa using hk
      cases ok with
      | false =>
        have hv : stepR c xh lv = (false, false, []) := by simp [stepR, hm, hk', hA]
        rw [hv]
        refine ⟨none, 0, RdL.nil w, fun W hb => ?_⟩
        exact RStep_no c A5 c5 A6 c6 A10 c10 xh Av cv lv hy Ay cy ly W (lC g5 hb) (lC g6 hb) (lC g10 hb) (lC gv hb) (fun W' hb' => MayBe_calls c A5 c5 A6 c6 A10 c10 true W' (lC (lC g5 hb) hb') (lC (lC g6 hb) hb') (lC (lC g10 hb) hb') hm) (fun W' hb' => hp W' (below_step hb hb')) hk
      | true =>
        cases hy with
        | false =>
          have hv : stepR c xh lv = (true, false, []) := by simp [stepR, hm, hk', hA]
          rw [hv]
          refine ⟨none, 0, RdL.nil w, fun W hb => ?_⟩
          exact RStep_nil c A5 c5 A6 c6 A10 c10 xh Av cv lv Ay cy ly W (lC g5 hb) (lC g6 hb) (lC g10 hb) (lC gv hb) (fun W' hb' => MayBe_calls c A5 c5 A6 c6 A10 c10 true W' (lC (lC g5 hb) hb') (lC (lC g6 hb) hb') (lC (lC g10 hb) hb') hm) (fun W' hb' => hp W' (below_step hb hb')) hk
        | true =>
          have hv : stepR c xh lv = (true, true, ly) := by simp [stepR, hm, hk', hA]
          rw [hv]
          refine ⟨Ay, cy, gy, fun W hb => ?_⟩
          exact RStep_y c A5 c5 A6 c6 A10 c10 xh Av cv lv Ay cy ly W (lC g5 hb) (lC g6 hb) (lC g10 hb) (lC gv hb) (fun W' hb' => MayBe_calls c A5 c5 A6 c6 A10 c10 true W' (lC (lC g5 hb) hb') (lC (lC g6 hb) hb') (lC (lC g10 hb) hb') hm) (fun W' hb' => hp W' (below_step hb hb')) hk
theorem playV_len (c : S30) (h : Bool) (l : List Int) (n : Nat) (h1 : c.f2.f3.length ≤ n) (h2 : l.length ≤ n) : (playV c h l).1.2.length ≤ n := by
  unfold playV
  repeat' split
  all_goals first | exact h1 | exact h2 | exact Nat.zero_le _
theorem PStep_any (c : S30) (A5 : Option Addr) (c5 : Nat) (A6 : Option Addr) (c6 : Nat) (A10 : Option Addr) (c10 : Nat) (xh : Bool) (Av : Option Addr) (cv : Nat) (lv : List Int) (w : World) (g5 : RdL w A5 c5 c.f2.f3) (g6 : RdL w A6 c6 c.f2.f4) (g10 : RdL w A10 c10 c.f4) (gv : RdL w Av cv lv) (hn1 : c.f2.f3.length ≤ 140737488351232) (hn2 : lv.length ≤ 140737488351232) :
    Calls Try.prog 11 #[.agg #[.int .u8 c.f0, .int .u64 c.f1, .int .u8 c.f2.f0, .int .u64 c.f2.f1, .int .u64 c.f2.f2, .slice A5 c.f2.f3.length c5, .slice A6 c.f2.f4.length c6, .bool c.f2.f5, .int .u8 c.f2.f6, .int .u8 c.f3, .slice A10 c.f4.length c10, .int .i64 c.f5, .int .i64 c.f6], .bool xh, .slice Av lv.length cv] w fun e w' => ∃ v, e = .returned (.tuple #[.bool (stepP c xh lv).1, .bool (stepP c xh lv).2.1, v]) ∧ RdO w' v (stepP c xh lv).2.2 ∧ Below w.heap.size w w' := by
  obtain ⟨Ay, cy, gy, hp⟩ := play_any c A5 c5 A6 c6 A10 c10 xh Av cv lv w g5 g6 g10 gv
  have hly := playV_len c xh lv 140737488351232 hn1 hn2
  generalize hA : playV c xh lv = a at gy hp hly
  obtain ⟨⟨hy, ly⟩, ok⟩ := a
  simp only at gy hp hly
  cases hm : mbV c with
  | false =>
    have hv : stepP c xh lv = (false, false, []) := by simp [stepP, hm]
    rw [hv]
    cases hk : (c.f2.f0 == 5) with
    | true =>
              exact (PStep_mt c A5 c5 A6 c6 A10 c10 xh Av cv lv ok hy Ay cy ly w g5 g6 g10 gv gy hly (fun W' hb' => mayBe_calls c A5 c5 A6 c6 A10 c10 false W' (lC g5 hb') (lC g6 hb') (lC g10 hb') hm) hp hk).mono (fun e w' h => ⟨_, h.1, ⟨none, 0, rfl, RdL.nil _⟩, h.2⟩)
    | false =>
               exact (PStep_mf c A5 c5 A6 c6 A10 c10 xh Av cv lv ok hy Ay cy ly w g5 g6 g10 gv gy hly (fun W' hb' => mayBe_calls c A5 c5 A6 c6 A10 c10 false W' (lC g5 hb') (lC g6 hb') (lC g10 hb') hm) hp hk).mono (fun e w' h => ⟨_, h.1, ⟨none, 0, rfl, RdL.nil _⟩, h.2⟩)
  | true =>
    cases hk : (c.f2.f0 == 5) with
    | true =>
      have hv : stepP c xh lv = (false, false, []) := by simp [stepP, beq_iff_eq.mp hk]
      rw [hv]
      exact (PStep_k c A5 c5 A6 c6 A10 c10 xh Av cv lv ok hy Ay cy ly w g5 g6 g10 gv gy hly (fun W' hb' => mayBe_calls c A5 c5 A6 c6 A10 c10 true W' (lC g5 hb') (lC g6 hb') (lC g10 hb') hm) hp hk).mono (fun e w' h => ⟨_, h.1, ⟨none, 0, rfl, RdL.nil _⟩, h.2⟩)
    | false =>
      have hk' : ¬ c.f2.f0 = 5 := by simpa using hk
      cases ok with
      | false =>
        have hv : stepP c xh lv = (false, false, []) := by simp [stepP, hm, hk', hA]
        rw [hv]
        exact (PStep_no c A5 c5 A6 c6 A10 c10 xh Av cv lv hy Ay cy ly w g5 g6 g10 gv gy hly (fun W' hb' => mayBe_calls c A5 c5 A6 c6 A10 c10 true W' (lC g5 hb') (lC g6 hb') (lC g10 hb') hm) hp hk).mono (fun e w' h => ⟨_, h.1, ⟨none, 0, rfl, RdL.nil _⟩, h.2⟩)
      | true =>
        cases hy with
        | false =>
          have hv : stepP c xh lv = (true, false, []) := by simp [stepP, hm, hk', hA]
          rw [hv]
          exact (PStep_nil c A5 c5 A6 c6 A10 c10 xh Av cv lv Ay cy ly w g5 g6 g10 gv gy hly (fun W' hb' => mayBe_calls c A5 c5 A6 c6 A10 c10 true W' (lC g5 hb') (lC g6 hb') (lC g10 hb') hm) hp hk).mono (fun e w' h => ⟨_, h.1, ⟨none, 0, rfl, RdL.nil _⟩, h.2⟩)
        | true =>
          have hv : stepP c xh lv = (true, true, ly) := by simp [stepP, hm, hk', hA]
          rw [hv]
          exact PStep_y c A5 c5 A6 c6 A10 c10 xh Av cv lv Ay cy ly w g5 g6 g10 gv gy hly (fun W' hb' => mayBe_calls c A5 c5 A6 c6 A10 c10 true W' (lC g5 hb') (lC g6 hb') (lC g10 hb') hm) hp hk
/-- A slice of calls reads as these. -/
def CallsAt (w : World) (A : Option Addr) (n : Nat) (l : List S30) : Prop := Kd.C k30 w A n l
theorem CallsAt.below {w w' : World} {A : Option Addr} {n : Nat} {l : List S30} (h : CallsAt w A n l) (hb : Below w.heap.size w w') : CallsAt w' A n l := Kd.C_below h hb
theorem callsAt_one {w : World} {g : Nat} {c : S30} {A5 : Option Addr} {c5 : Nat} {A6 : Option Addr} {c6 : Nat} {A10 : Option Addr} {c10 : Nat} (h : w.heap[g]? = some (.cells #[.int .u8 c.f0, .int .u64 c.f1, .int .u8 c.f2.f0, .int .u64 c.f2.f1, .int .u64 c.f2.f2, .slice A5 c.f2.f3.length c5, .slice A6 c.f2.f4.length c6, .bool c.f2.f5, .int .u8 c.f2.f6, .int .u8 c.f3, .slice A10 c.f4.length c10, .int .i64 c.f5, .int .i64 c.f6] 30 (0, 0))) (g5 : RdL w A5 c5 c.f2.f3) (g6 : RdL w A6 c6 c.f2.f4) (g10 : RdL w A10 c10 c.f4) : CallsAt w (some ⟨g, 0, none⟩) 1 [c] := by
  refine ⟨rfl, by decide, fun _ => ⟨_, rfl, fun j p hj => ?_⟩⟩
  cases j with
  | zero =>
    simp only [List.getElem?_cons_zero, Option.some.injEq] at hj
    subst hj
    refine ⟨[.int .u8 c.f0, .int .u64 c.f1, .int .u8 c.f2.f0, .int .u64 c.f2.f1, .int .u64 c.f2.f2, .slice A5 c.f2.f3.length c5, .slice A6 c.f2.f4.length c6, .bool c.f2.f5, .int .u8 c.f2.f6, .int .u8 c.f3, .slice A10 c.f4.length c10, .int .i64 c.f5, .int .i64 c.f6], rfl, k30_mk w c g5.1 g5.2 g6.1 g6.2 g10.1 g10.2, fun i u hu => ?_⟩
    rw [add_plain]
    rw [blk_cell h, Nat.zero_mul, Nat.zero_add]
    simpa using hu
  | succ j => simp at hj
end Go.Proofs.Ytdjdbjcapenjeaa.P
