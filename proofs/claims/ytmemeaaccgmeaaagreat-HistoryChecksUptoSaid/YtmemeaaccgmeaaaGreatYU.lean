/- shardref3.Check, all kinds but two -/
import Derived.Test.YtmemeaaccgmeaaaGreatDxTab
import Derived.Test.YtmemeaaccgmeaaaGreatDx3
import Derived.Test.YtmemeaaccgmeaaaGreatDxTy
import Derived.Test.YtmemeaaccgmeaaaGreatY
import Derived.Test.YtmemeaaccgmeaaaGreatUE
set_option linter.unusedVariables false
set_option maxRecDepth 100000
open Go Go.Proofs Go.Proofs.YtmemeaaccgmeaaaGreat.Dx Go.Proofs.YtmemeaaccgmeaaaGreat.Dx.TYtmemeaaccgmeaaaGreat
namespace Go.Proofs.YtmemeaaccgmeaaaGreat.YU
open W Y Y0
theorem w8 {x : Int} (h1 : 0 ≤ x) (h2 : x ≤ 255) : IntKind.i64.wrap x = x := w64 (by omega) (by omega)
namespace F78
noncomputable def ts : List Ty := [T66]
abbrev mOf (m : D66) : Int := m.2.2.2.2.2.2.2.1
abbrev mSt (m : D66) : Int := m.2.2.2.2.2.2.2.2.1
/-- What the document's Check says. -/
def chkD (m : D66) : Int := bif m.1 == 9 then U.F78.K9.val m.2.1 m.2.2.1 m.2.2.2.1 m.2.2.2.2.1 m.2.2.2.2.2.1 m.2.2.2.2.2.2.1 m.2.2.2.2.2.2.2.1 m.2.2.2.2.2.2.2.2.1 m.2.2.2.2.2.2.2.2.2.1 m.2.2.2.2.2.2.2.2.2.2.1 m.2.2.2.2.2.2.2.2.2.2.2.1 m.2.2.2.2.2.2.2.2.2.2.2.2.1 m.2.2.2.2.2.2.2.2.2.2.2.2.2.1 m.2.2.2.2.2.2.2.2.2.2.2.2.2.2.1 m.2.2.2.2.2.2.2.2.2.2.2.2.2.2.2.1 m.2.2.2.2.2.2.2.2.2.2.2.2.2.2.2.2.1 else bif m.1 == 12 then UE.F78.K12.val m.2.1 m.2.2.1 m.2.2.2.1 m.2.2.2.2.1 m.2.2.2.2.2.1 m.2.2.2.2.2.2.1 m.2.2.2.2.2.2.2.1 m.2.2.2.2.2.2.2.2.1 m.2.2.2.2.2.2.2.2.2.1 m.2.2.2.2.2.2.2.2.2.2.1 m.2.2.2.2.2.2.2.2.2.2.2.1 m.2.2.2.2.2.2.2.2.2.2.2.2.1 m.2.2.2.2.2.2.2.2.2.2.2.2.2.1 m.2.2.2.2.2.2.2.2.2.2.2.2.2.2.2.2.1 else chk m
noncomputable def G : List AV → PV := pg1 T66 (fun m => [m.1 = 12 → mPairs m = [] ∧ mSess m = [], (mPairs m).length ≤ LB, (mSess m).length ≤ LB, 0 ≤ m.1 ∧ m.1 ≤ 255, 0 ≤ mOf m ∧ mOf m ≤ 255, 0 ≤ mSt m ∧ mSt m ≤ 255, 0 ≤ m.2.2.2.1]) (fun m => .v (.int .i64) (chkD m))
theorem sameT {m n : D66} (hp : (mPairs m).length ≤ LB) (h1 : mPairs n = [] ∨ mPairs m = mPairs n) (h2 : mSess n = []) : RA.F84.Pre m n := ⟨h1, hp, h2⟩
theorem pre1 (seq key hi : Int) (va old : List Int) (has : Bool) (of st host gr bo ma li : Int) (ps : List D118) (ss : List D187) (pa : List Int) (hp : ps.length ≤ LB) (hs : ss.length ≤ LB) : U.F78.K1.Pre seq key hi va old has of st host gr bo ma li ps ss pa := by
  unfold U.F78.K1.Pre
  repeat (first | exact hp | exact hs | exact trivial | exact sameT hp (.inl rfl) rfl | exact sameT hp (.inr rfl) rfl | refine ⟨?_, ?_⟩ | refine bif_all ?_ ?_)
theorem pre2 (seq key hi : Int) (va old : List Int) (has : Bool) (of st host gr bo ma li : Int) (ps : List D118) (ss : List D187) (pa : List Int) (hp : ps.length ≤ LB) (hs : ss.length ≤ LB) : U.F78.K2.Pre seq key hi va old has of st host gr bo ma li ps ss pa := by
  unfold U.F78.K2.Pre
  repeat (first | exact hp | exact hs | exact trivial | exact sameT hp (.inl rfl) rfl | exact sameT hp (.inr rfl) rfl | refine ⟨?_, ?_⟩ | refine bif_all ?_ ?_)
theorem pre3 (seq key hi : Int) (va old : List Int) (has : Bool) (of st host gr bo ma li : Int) (ps : List D118) (ss : List D187) (pa : List Int) (hp : ps.length ≤ LB) (hs : ss.length ≤ LB) : U.F78.K3.Pre seq key hi va old has of st host gr bo ma li ps ss pa := by
  unfold U.F78.K3.Pre
  repeat (first | exact hp | exact hs | exact trivial | exact sameT hp (.inl rfl) rfl | exact sameT hp (.inr rfl) rfl | refine ⟨?_, ?_⟩ | refine bif_all ?_ ?_)
theorem pre4 (seq key hi : Int) (va old : List Int) (has : Bool) (of st host gr bo ma li : Int) (ps : List D118) (ss : List D187) (pa : List Int) (hp : ps.length ≤ LB) (hs : ss.length ≤ LB) : U.F78.K4.Pre seq key hi va old has of st host gr bo ma li ps ss pa := by
  unfold U.F78.K4.Pre
  repeat (first | exact hp | exact hs | exact trivial | exact sameT hp (.inl rfl) rfl | exact sameT hp (.inr rfl) rfl | refine ⟨?_, ?_⟩ | refine bif_all ?_ ?_)
theorem pre5 (seq key hi : Int) (va old : List Int) (has : Bool) (of st host gr bo ma li : Int) (ps : List D118) (ss : List D187) (pa : List Int) (hp : ps.length ≤ LB) (hs : ss.length ≤ LB) : U.F78.K5.Pre seq key hi va old has of st host gr bo ma li ps ss pa := by
  unfold U.F78.K5.Pre
  repeat (first | exact hp | exact hs | exact trivial | exact sameT hp (.inl rfl) rfl | exact sameT hp (.inr rfl) rfl | refine ⟨?_, ?_⟩ | refine bif_all ?_ ?_)
theorem pre7 (seq key hi : Int) (va old : List Int) (has : Bool) (of st host gr bo ma li : Int) (ps : List D118) (ss : List D187) (pa : List Int) (hp : ps.length ≤ LB) (hs : ss.length ≤ LB) : U.F78.K7.Pre seq key hi va old has of st host gr bo ma li ps ss pa := by
  unfold U.F78.K7.Pre
  repeat (first | exact hp | exact hs | exact trivial | exact sameT hp (.inl rfl) rfl | exact sameT hp (.inr rfl) rfl | refine ⟨?_, ?_⟩ | refine bif_all ?_ ?_)
theorem pre8 (seq key hi : Int) (va old : List Int) (has : Bool) (of st host gr bo ma li : Int) (ps : List D118) (ss : List D187) (pa : List Int) (hp : ps.length ≤ LB) (hs : ss.length ≤ LB) : U.F78.K8.Pre seq key hi va old has of st host gr bo ma li ps ss pa := by
  unfold U.F78.K8.Pre
  repeat (first | exact hp | exact hs | exact trivial | exact sameT hp (.inl rfl) rfl | exact sameT hp (.inr rfl) rfl | refine ⟨?_, ?_⟩ | refine bif_all ?_ ?_)
theorem pre10 (seq key hi : Int) (va old : List Int) (has : Bool) (of st host gr bo ma li : Int) (ps : List D118) (ss : List D187) (pa : List Int) (hp : ps.length ≤ LB) (hs : ss.length ≤ LB) : U.F78.K10.Pre seq key hi va old has of st host gr bo ma li ps ss pa := by
  unfold U.F78.K10.Pre
  repeat (first | exact hp | exact hs | exact trivial | exact sameT hp (.inl rfl) rfl | exact sameT hp (.inr rfl) rfl | refine ⟨?_, ?_⟩ | refine bif_all ?_ ?_)
theorem pre11 (seq key hi : Int) (va old : List Int) (has : Bool) (of st host gr bo ma li : Int) (ps : List D118) (ss : List D187) (pa : List Int) (hp : ps.length ≤ LB) (hs : ss.length ≤ LB) : U.F78.K11.Pre seq key hi va old has of st host gr bo ma li ps ss pa := by
  unfold U.F78.K11.Pre
  repeat (first | exact hp | exact hs | exact trivial | exact sameT hp (.inl rfl) rfl | exact sameT hp (.inr rfl) rfl | refine ⟨?_, ?_⟩ | refine bif_all ?_ ?_)
theorem pre9 (seq key hi : Int) (va old : List Int) (has : Bool) (of st host gr bo ma li : Int) (ps : List D118) (ss : List D187) (pa : List Int) (hp : ps.length ≤ LB) (hs : ss.length ≤ LB) : U.F78.K9.Pre seq key hi va old has of st host gr bo ma li ps ss pa := by
  unfold U.F78.K9.Pre
  repeat (first | exact hp | exact hs | exact trivial | exact sameT hp (.inl rfl) rfl | exact sameT hp (.inr rfl) rfl | refine ⟨?_, ?_⟩ | refine bif_all ?_ ?_)
theorem preK6 (seq key hi : Int) (va old : List Int) (has : Bool) (of st host gr bo ma li : Int) (ps : List D118) (ss : List D187) (pa : List Int) (hp : ps.length ≤ LB) (hs : ss.length ≤ LB) : U.F78.K6.Pre seq key hi va old has of st host gr bo ma li ps ss pa := by
  unfold U.F78.K6.Pre
  repeat (first | exact hp | exact hs | exact trivial | exact sameT hp (.inl rfl) rfl | exact sameT hp (.inr rfl) rfl | refine ⟨?_, ?_⟩ | refine bif_all ?_ ?_)
theorem ug6 (seq key hi : Int) (va old : List Int) (has : Bool) (of st host gr bo ma li : Int) (ps : List D118) (ss : List D187) (pa : List Int) : U.F78.K6.val seq key hi va old has of st host gr bo ma li ps ss pa = (bif IntKind.i64.wrap of == 1 then (bif IntKind.i64.wrap st == 1 then bif !RA.F95.val ((6 : Int), seq, key, hi, va, old, has, of, st, host, gr, bo, ma, li, ps, ss, pa, ()) 1 then (35 : Int) else bif !RA.F95.val ((6 : Int), seq, key, hi, va, old, has, of, st, host, gr, bo, ma, li, ps, ss, pa, ()) 7 then (35 : Int) else bif !RA.F95.val ((6 : Int), seq, key, hi, va, old, has, of, st, host, gr, bo, ma, li, ps, ss, pa, ()) 8 then (35 : Int) else bif !RA.F95.val ((6 : Int), seq, key, hi, va, old, has, of, st, host, gr, bo, ma, li, ps, ss, pa, ()) 4 then (35 : Int) else bif !RA.F84.val ((6 : Int), seq, key, hi, va, old, has, of, st, host, gr, bo, ma, li, ps, ss, pa, ()) ((6 : Int), seq, (0 : Int), (0 : Int), va, [], false, of, st, (0 : Int), (0 : Int), (0 : Int), (0 : Int), (0 : Int), [], [], [], ()) then (35 : Int) else 0 else (bif IntKind.i64.wrap of == 5 then bif !RA.F95.val ((6 : Int), seq, key, hi, va, old, has, of, st, host, gr, bo, ma, li, ps, ss, pa, ()) 1 then (35 : Int) else bif !RA.F95.val ((6 : Int), seq, key, hi, va, old, has, of, st, host, gr, bo, ma, li, ps, ss, pa, ()) 7 then (35 : Int) else bif !RA.F95.val ((6 : Int), seq, key, hi, va, old, has, of, st, host, gr, bo, ma, li, ps, ss, pa, ()) 8 then (35 : Int) else bif !RA.F95.val ((6 : Int), seq, key, hi, va, old, has, of, st, host, gr, bo, ma, li, ps, ss, pa, ()) 3 then (35 : Int) else bif !RA.F95.val ((6 : Int), seq, key, hi, va, old, has, of, st, host, gr, bo, ma, li, ps, ss, pa, ()) 14 then (35 : Int) else bif !RA.F84.val ((6 : Int), seq, key, hi, va, old, has, of, st, host, gr, bo, ma, li, ps, ss, pa, ()) ((6 : Int), seq, (0 : Int), hi, [], [], false, of, st, (0 : Int), (0 : Int), (0 : Int), (0 : Int), (0 : Int), ps, [], [], ()) then (35 : Int) else bif !RA.F96.val ((6 : Int), seq, key, hi, va, old, has, of, st, host, gr, bo, ma, li, ps, ss, pa, ()) 14 then 36 else 0 else bif !RA.F95.val ((6 : Int), seq, key, hi, va, old, has, of, st, host, gr, bo, ma, li, ps, ss, pa, ()) 1 then (35 : Int) else bif !RA.F95.val ((6 : Int), seq, key, hi, va, old, has, of, st, host, gr, bo, ma, li, ps, ss, pa, ()) 7 then (35 : Int) else bif !RA.F95.val ((6 : Int), seq, key, hi, va, old, has, of, st, host, gr, bo, ma, li, ps, ss, pa, ()) 8 then (35 : Int) else bif !RA.F84.val ((6 : Int), seq, key, hi, va, old, has, of, st, host, gr, bo, ma, li, ps, ss, pa, ()) ((6 : Int), seq, (0 : Int), (0 : Int), [], [], false, of, st, (0 : Int), (0 : Int), (0 : Int), (0 : Int), (0 : Int), [], [], [], ()) then (35 : Int) else 0)) else (bif IntKind.i64.wrap of == 5 then bif !RA.F95.val ((6 : Int), seq, key, hi, va, old, has, of, st, host, gr, bo, ma, li, ps, ss, pa, ()) 1 then (35 : Int) else bif !RA.F95.val ((6 : Int), seq, key, hi, va, old, has, of, st, host, gr, bo, ma, li, ps, ss, pa, ()) 7 then (35 : Int) else bif !RA.F95.val ((6 : Int), seq, key, hi, va, old, has, of, st, host, gr, bo, ma, li, ps, ss, pa, ()) 8 then (35 : Int) else bif !RA.F95.val ((6 : Int), seq, key, hi, va, old, has, of, st, host, gr, bo, ma, li, ps, ss, pa, ()) 3 then (35 : Int) else bif !RA.F95.val ((6 : Int), seq, key, hi, va, old, has, of, st, host, gr, bo, ma, li, ps, ss, pa, ()) 14 then (35 : Int) else bif !RA.F84.val ((6 : Int), seq, key, hi, va, old, has, of, st, host, gr, bo, ma, li, ps, ss, pa, ()) ((6 : Int), seq, (0 : Int), hi, [], [], false, of, st, (0 : Int), (0 : Int), (0 : Int), (0 : Int), (0 : Int), ps, [], [], ()) then (35 : Int) else bif !RA.F96.val ((6 : Int), seq, key, hi, va, old, has, of, st, host, gr, bo, ma, li, ps, ss, pa, ()) 14 then 36 else 0 else bif !RA.F95.val ((6 : Int), seq, key, hi, va, old, has, of, st, host, gr, bo, ma, li, ps, ss, pa, ()) 1 then (35 : Int) else bif !RA.F95.val ((6 : Int), seq, key, hi, va, old, has, of, st, host, gr, bo, ma, li, ps, ss, pa, ()) 7 then (35 : Int) else bif !RA.F95.val ((6 : Int), seq, key, hi, va, old, has, of, st, host, gr, bo, ma, li, ps, ss, pa, ()) 8 then (35 : Int) else bif !RA.F84.val ((6 : Int), seq, key, hi, va, old, has, of, st, host, gr, bo, ma, li, ps, ss, pa, ()) ((6 : Int), seq, (0 : Int), (0 : Int), [], [], false, of, st, (0 : Int), (0 : Int), (0 : Int), (0 : Int), (0 : Int), [], [], [], ()) then (35 : Int) else 0)) := by kernel_rfl
theorem r1 (seq key hi : Int) (va old : List Int) (has : Bool) (of st host gr bo ma li : Int) (ps : List D118) (ss : List D187) (pa : List Int) : RA.F95.val ((6 : Int), seq, key, hi, va, old, has, of, st, host, gr, bo, ma, li, ps, ss, pa, ()) 1 = decide (seq > 0) := by
  show (bif decide (seq > 0) then true else _) = decide (seq > 0)
  cases decide (seq > 0) <;> rfl
theorem r7 (seq key hi : Int) (va old : List Int) (has : Bool) (of st host gr bo ma li : Int) (ps : List D118) (ss : List D187) (pa : List Int) : RA.F95.val ((6 : Int), seq, key, hi, va, old, has, of, st, host, gr, bo, ma, li, ps, ss, pa, ()) 7 = (bif decide (IntKind.i64.wrap of ≥ 1) then decide (IntKind.i64.wrap of ≤ 5) else false) := rfl
theorem r8 (seq key hi : Int) (va old : List Int) (has : Bool) (of st host gr bo ma li : Int) (ps : List D118) (ss : List D187) (pa : List Int) : RA.F95.val ((6 : Int), seq, key, hi, va, old, has, of, st, host, gr, bo, ma, li, ps, ss, pa, ()) 8 = RA.F129.val ((6 : Int), seq, key, hi, va, old, has, of, st, host, gr, bo, ma, li, ps, ss, pa, ()) := rfl
theorem bad35 (seq key hi : Int) (va old : List Int) (has : Bool) (of st host gr bo ma li : Int) (ps : List D118) (ss : List D187) (pa : List Int) (ho : 0 ≤ of ∧ of ≤ 255) (ht : 0 ≤ st ∧ st ≤ 255) (hb : bad6 seq of st = true) : U.F78.K6.val seq key hi va old has of st host gr bo ma li ps ss pa = 35 := by
  rw [ug6, r1, r7, r8, w8 ho.1 ho.2, w8 ht.1 ht.2]
  have kk : decide (seq > 0) = false ∨ (bif decide (of ≥ 1) then decide (of ≤ 5) else false) = false ∨ RA.F129.val ((6 : Int), seq, key, hi, va, old, has, of, st, host, gr, bo, ma, li, ps, ss, pa, ()) = false := by
    by_cases h1 : seq > 0
    · by_cases h2 : of ≥ 1
      · by_cases h3 : of ≤ 5
        · refine .inr (.inr ?_)
          unfold bad6 at hb
          rw [decide_eq_true h1, decide_eq_true h2, decide_eq_true h3] at hb
          unfold RA.F129.val
          dsimp only
          rw [w8 ho.1 ho.2, w8 ht.1 ht.2]
          have : of = 1 ∨ of = 2 ∨ of = 3 ∨ of = 4 ∨ of = 5 := by omega
          have hs : st = 1 ∨ st = 2 ∨ st = 3 ∨ st = 4 ∨ (st ≠ 1 ∧ st ≠ 2 ∧ st ≠ 3 ∧ st ≠ 4) := by omega
          rcases hs with rfl | rfl | rfl | rfl | ⟨n1, n2, n3, n4⟩
          case inr.inr.inr.inr =>
            have e1 : (st == 1) = false := by simpa using n1
            have e2 : (st == 2) = false := by simpa using n2
            have e3 : (st == 3) = false := by simpa using n3
            have e4 : (st == 4) = false := by simpa using n4
            rw [e1, e2, e3, e4]
            rcases this with rfl | rfl | rfl | rfl | rfl <;> rfl
          all_goals (rcases this with rfl | rfl | rfl | rfl | rfl <;> first | rfl | exact absurd hb (by decide))
        · rw [decide_eq_false h3]; exact .inr (.inl (by cases decide (of ≥ 1) <;> rfl))
      · rw [decide_eq_false h2]; exact .inr (.inl rfl)
    · exact .inl (decide_eq_false h1)
  generalize decide (seq > 0) = A at kk ⊢
  generalize (bif decide (of ≥ 1) then decide (of ≤ 5) else false) = B at kk ⊢
  generalize RA.F129.val ((6 : Int), seq, key, hi, va, old, has, of, st, host, gr, bo, ma, li, ps, ss, pa, ()) = D at kk ⊢
  rcases kk with rfl | rfl | rfl
  · cases (of == 1) <;> cases (st == 1) <;> cases (of == 5) <;> rfl
  · cases A <;> cases (of == 1) <;> cases (st == 1) <;> cases (of == 5) <;> rfl
  · cases A <;> cases B <;> cases (of == 1) <;> cases (st == 1) <;> cases (of == 5) <;> rfl
theorem all (kd : Int) (seq key hi : Int) (va old : List Int) (has : Bool) (of st host gr bo ma li : Int) (ps : List D118) (ss : List D187) (pa : List Int) (h9 : kd ≠ 9) (h12 : kd ≠ 12) (hp : ps.length ≤ LB) (hs : ss.length ≤ LB) (hk : 0 ≤ kd ∧ kd ≤ 255) (ho : 0 ≤ of ∧ of ≤ 255) (ht : 0 ≤ st ∧ st ≤ 255) (hh : 0 ≤ hi) : ∃ F : CF, SoundF Tryz.prog 78 F ∧ F [.v T66 (kd, seq, key, hi, va, old, has, of, st, host, gr, bo, ma, li, ps, ss, pa, ())] [] fun r H => coRes H [.int .i64] r fun r' => r' = .v (.int .i64) (chkA kd seq key hi va old has of st host gr bo ma li ps ss pa) := by
  by_cases h0 : kd < 1 ∨ kd > 12
  · refine ⟨U.F78.cfI_X, U.F78.cfI_X_ok, ?_⟩
    rw [U.F78.K0.main]
    refine U.F78.K0.spec kd seq key hi va old has of st host gr bo ma li ps ss pa _ ?_ ?_
    · unfold U.F78.K0.Pre
      rw [w8 hk.1 hk.2]
      by_cases h1 : kd < 1
      · rw [decide_eq_true h1]; trivial
      · rw [decide_eq_false h1, decide_eq_true (show kd > 12 by omega)]; trivial
    · unfold chkA
      have : (decide (kd < 1) || decide (kd > 12)) = true := by rw [Bool.or_eq_true, decide_eq_true_eq, decide_eq_true_eq]; exact h0
      rw [this]; rfl
  rcases kinds h9 h12 h0 with rfl | rfl | rfl | rfl | rfl | rfl | rfl | rfl | rfl | rfl
  · refine ⟨U.F78.cfI, U.F78.cfI_ok, ?_⟩
    rw [U.F78.K1.main]
    exact U.F78.K1.spec seq key hi va old has of st host gr bo ma li ps ss pa _ (pre1 seq key hi va old has of st host gr bo ma li ps ss pa hp hs) (by rw [← eq1]; rfl)
  · refine ⟨U.F78.cfI, U.F78.cfI_ok, ?_⟩
    rw [U.F78.K2.main]
    exact U.F78.K2.spec seq key hi va old has of st host gr bo ma li ps ss pa _ (pre2 seq key hi va old has of st host gr bo ma li ps ss pa hp hs) (by rw [← eq2]; rfl)
  · refine ⟨U.F78.cfI, U.F78.cfI_ok, ?_⟩
    rw [U.F78.K3.main]
    exact U.F78.K3.spec seq key hi va old has of st host gr bo ma li ps ss pa _ (pre3 seq key hi va old has of st host gr bo ma li ps ss pa hp hs) (by rw [← eq3]; rfl)
  · refine ⟨U.F78.cfI, U.F78.cfI_ok, ?_⟩
    rw [U.F78.K4.main]
    exact U.F78.K4.spec seq key hi va old has of st host gr bo ma li ps ss pa _ (pre4 seq key hi va old has of st host gr bo ma li ps ss pa hp hs) (by rw [← eq4]; rfl)
  · refine ⟨U.F78.cfI, U.F78.cfI_ok, ?_⟩
    rw [U.F78.K5.main]
    exact U.F78.K5.spec seq key hi va old has of st host gr bo ma li ps ss pa _ (pre5 seq key hi va old has of st host gr bo ma li ps ss pa hp hs) (by rw [← eq5]; rfl)
  · refine ⟨U.F78.cfI, U.F78.cfI_ok, ?_⟩
    rw [U.F78.K7.main]
    exact U.F78.K7.spec seq key hi va old has of st host gr bo ma li ps ss pa _ (pre7 seq key hi va old has of st host gr bo ma li ps ss pa hp hs) (by rw [← eq7]; rfl)
  · refine ⟨U.F78.cfI, U.F78.cfI_ok, ?_⟩
    rw [U.F78.K8.main]
    exact U.F78.K8.spec seq key hi va old has of st host gr bo ma li ps ss pa _ (pre8 seq key hi va old has of st host gr bo ma li ps ss pa hp hs) (by rw [← eq8]; rfl)
  · refine ⟨U.F78.cfI, U.F78.cfI_ok, ?_⟩
    rw [U.F78.K10.main]
    exact U.F78.K10.spec seq key hi va old has of st host gr bo ma li ps ss pa _ (pre10 seq key hi va old has of st host gr bo ma li ps ss pa hp hs) (by rw [← eq10]; rfl)
  · refine ⟨U.F78.cfI, U.F78.cfI_ok, ?_⟩
    rw [U.F78.K11.main]
    exact U.F78.K11.spec seq key hi va old has of st host gr bo ma li ps ss pa _ (pre11 seq key hi va old has of st host gr bo ma li ps ss pa hp hs) (by rw [← eq11]; rfl)
  refine ⟨U.F78.cfI, U.F78.cfI_ok, ?_⟩
  rw [U.F78.K6.main]
  refine U.F78.K6.spec seq key hi va old has of st host gr bo ma li ps ss pa _ (preK6 seq key hi va old has of st host gr bo ma li ps ss pa hp hs) ?_
  show AV.v (.int .i64) (U.F78.K6.val seq key hi va old has of st host gr bo ma li ps ss pa) = .v (.int .i64) (bif bad6 seq of st then 35 else bif of == 1 && st == 1 then V.F82.K6_1_1.val seq key hi va old has host gr bo ma li ps ss pa else bif of == 1 && st == 2 then V.F82.K6_1_2.val seq key hi va old has host gr bo ma li ps ss pa else bif of == 2 && st == 1 then V.F82.K6_2_1.val seq key hi va old has host gr bo ma li ps ss pa else bif of == 2 && st == 4 then V2.F82.K6_2_4.val seq key hi va old has host gr bo ma li ps ss pa else bif of == 3 && st == 1 then V.F82.K6_3_1.val seq key hi va old has host gr bo ma li ps ss pa else bif of == 3 && st == 2 then V2.F82.K6_3_2.val seq key hi va old has host gr bo ma li ps ss pa else bif of == 4 && st == 1 then V.F82.K6_4_1.val seq key hi va old has host gr bo ma li ps ss pa else bif of == 4 && st == 3 then V.F82.K6_4_3.val seq key hi va old has host gr bo ma li ps ss pa else bif of == 4 && st == 4 then V.F82.K6_4_4.val seq key hi va old has host gr bo ma li ps ss pa else V.F82.K6_5_1.val seq key hi va old has host gr bo ma li ps ss pa)
  cases hb : bad6 seq of st with
  | true => rw [bad35 seq key hi va old has of st host gr bo ma li ps ss pa ho ht hb]; rfl
  | false =>
    rcases good6 hb with ⟨rfl, rfl⟩ | ⟨rfl, rfl⟩ | ⟨rfl, rfl⟩ | ⟨rfl, rfl⟩ | ⟨rfl, rfl⟩ | ⟨rfl, rfl⟩ | ⟨rfl, rfl⟩ | ⟨rfl, rfl⟩ | ⟨rfl, rfl⟩ | ⟨rfl, rfl⟩
    · rw [← eq6_1_1]; rfl
    · rw [← eq6_1_2]; rfl
    · rw [← eq6_2_1]; rfl
    · rw [← eq6_2_4]; rfl
    · rw [← eq6_3_1]; rfl
    · rw [← eq6_3_2]; rfl
    · rw [← eq6_4_1]; rfl
    · rw [← eq6_4_3]; rfl
    · rw [← eq6_4_4]; rfl
    · rw [← eq6_5_1 (h_hi := hh)]; rfl
theorem preE (seq key hi : Int) (va old : List Int) (has : Bool) (of st host gr bo ma li : Int) (ps : List D118) (ss : List D187) (pa : List Int) (hp : ps.length ≤ LB) (hs : ss.length ≤ LB) : UE.F78.K12.Pre seq key hi va old has of st host gr bo ma li pa := by
  unfold UE.F78.K12.Pre
  repeat (first | exact Nat.zero_le _ | exact trivial | exact sameT (Nat.zero_le _) (.inl rfl) rfl | refine ⟨?_, ?_⟩ | refine bif_all ?_ ?_)
theorem all' (kd : Int) (seq key hi : Int) (va old : List Int) (has : Bool) (of st host gr bo ma li : Int) (ps : List D118) (ss : List D187) (pa : List Int) (he : kd = 12 → ps = [] ∧ ss = []) (hp : ps.length ≤ LB) (hs : ss.length ≤ LB) (hk : 0 ≤ kd ∧ kd ≤ 255) (ho : 0 ≤ of ∧ of ≤ 255) (ht : 0 ≤ st ∧ st ≤ 255) (hh : 0 ≤ hi) : ∃ F : CF, SoundF Tryz.prog 78 F ∧ F [.v T66 (kd, seq, key, hi, va, old, has, of, st, host, gr, bo, ma, li, ps, ss, pa, ())] [] fun r H => coRes H [.int .i64] r fun r' => r' = .v (.int .i64) (chkD (kd, seq, key, hi, va, old, has, of, st, host, gr, bo, ma, li, ps, ss, pa, ())) := by
  by_cases h9 : kd = 9
  · subst h9
    refine ⟨U.F78.cfI, U.F78.cfI_ok, ?_⟩
    rw [U.F78.K9.main]
    exact U.F78.K9.spec seq key hi va old has of st host gr bo ma li ps ss pa _ (pre9 seq key hi va old has of st host gr bo ma li ps ss pa hp hs) rfl
  by_cases h12 : kd = 12
  · subst h12
    obtain ⟨rfl, rfl⟩ := he rfl
    refine ⟨UE.F78.cfI, UE.F78.cfI_ok, ?_⟩
    rw [UE.F78.K12.main]
    exact UE.F78.K12.spec seq key hi va old has of st host gr bo ma li pa _ (preE seq key hi va old has of st host gr bo ma li [] [] pa hp hs) rfl
  rw [show chkD (kd, seq, key, hi, va, old, has, of, st, host, gr, bo, ma, li, ps, ss, pa, ()) = chkA kd seq key hi va old has of st host gr bo ma li ps ss pa by
    unfold chkD
    rw [show ((kd, seq, key, hi, va, old, has, of, st, host, gr, bo, ma, li, ps, ss, pa, ()) : D66).1 = kd from rfl, show (kd == 9) = false by simpa using h9, show (kd == 12) = false by simpa using h12]
    rfl]
  exact all kd seq key hi va old has of st host gr bo ma li ps ss pa h9 h12 hp hs hk ho ht hh
theorem chkD_eq (m : D66) (h9 : m.1 ≠ 9) (h12 : m.1 ≠ 12) : chkD m = chk m := by
  unfold chkD
  rw [show (m.1 == 9) = false by simpa using h9, show (m.1 == 12) = false by simpa using h12]
  rfl
theorem ok : SoundP Tryz.prog 78 G := by
  unfold G
  refine soundP_case [.int .i64] (pg1_use (P := fun args q => ∃ F : CF, SoundF Tryz.prog 78 F ∧ F args [] fun r H => coRes H [.int .i64] r fun r' => r' = q.2) ?_)
  rintro ⟨kd, seq, key, hi, va, old, has, of, st, host, gr, bo, ma, li, ps, ss, pa, ⟨⟩⟩ ⟨he, hp, hs, hk, ho, ht, hh, _⟩
  exact all' kd seq key hi va old has of st host gr bo ma li ps ss pa he hp hs hk ho ht hh
end F78

end Go.Proofs.YtmemeaaccgmeaaaGreat.YU
