/- wire.Check and shardref3.Check, all kinds but two -/
import Derived.Test.YtmemeaaccgmeaaaGreatDxTab
import Derived.Test.YtmemeaaccgmeaaaGreatDx3
import Derived.Test.YtmemeaaccgmeaaaGreatDxTy
import Derived.Test.YtmemeaaccgmeaaaGreatY0
set_option linter.unusedVariables false
set_option maxRecDepth 100000
open Go Go.Proofs Go.Proofs.YtmemeaaccgmeaaaGreat.Dx Go.Proofs.YtmemeaaccgmeaaaGreat.Dx.TYtmemeaaccgmeaaaGreat
namespace Go.Proofs.YtmemeaaccgmeaaaGreat.Y
open W
/-- What a reply of that kind may not say. -/
def bad6 (seq of st : Int) : Bool := !decide (seq > 0) || (!(decide (of ≥ 1) && decide (of ≤ 5)) || !(st == 1 || ((st == 2 && (of == 1 || of == 3)) || ((st == 3 && of == 4) || (st == 4 && (of == 2 || of == 4))))))
def chkA (kd : Int) (seq key hi : Int) (va old : List Int) (has : Bool) (of st host gr bo ma li : Int) (ps : List D118) (ss : List D187) (pa : List Int) : Int := bif decide (kd < 1) || decide (kd > 12) then 32 else bif kd == 1 then V.F82.K1.val seq key hi va old has of st host gr bo ma li ps ss pa else bif kd == 2 then V.F82.K2.val seq key hi va old has of st host gr bo ma li ps ss pa else bif kd == 3 then V.F82.K3.val seq key hi va old has of st host gr bo ma li ps ss pa else bif kd == 4 then V.F82.K4.val seq key hi va old has of st host gr bo ma li ps ss pa else bif kd == 5 then V.F82.K5.val seq key hi va old has of st host gr bo ma li ps ss pa else bif kd == 7 then V.F82.K7.val seq key hi va old has of st host gr bo ma li ps ss pa else bif kd == 8 then V.F82.K8.val seq key hi va old has of st host gr bo ma li ps ss pa else bif kd == 10 then V.F82.K10.val seq key hi va old has of st host gr bo ma li ps ss pa else bif kd == 11 then V.F82.K11.val seq key hi va old has of st host gr bo ma li ps ss pa else bif kd == 6 then (bif bad6 seq of st then 35 else bif of == 1 && st == 1 then V.F82.K6_1_1.val seq key hi va old has host gr bo ma li ps ss pa else bif of == 1 && st == 2 then V.F82.K6_1_2.val seq key hi va old has host gr bo ma li ps ss pa else bif of == 2 && st == 1 then V.F82.K6_2_1.val seq key hi va old has host gr bo ma li ps ss pa else bif of == 2 && st == 4 then V2.F82.K6_2_4.val seq key hi va old has host gr bo ma li ps ss pa else bif of == 3 && st == 1 then V.F82.K6_3_1.val seq key hi va old has host gr bo ma li ps ss pa else bif of == 3 && st == 2 then V2.F82.K6_3_2.val seq key hi va old has host gr bo ma li ps ss pa else bif of == 4 && st == 1 then V.F82.K6_4_1.val seq key hi va old has host gr bo ma li ps ss pa else bif of == 4 && st == 3 then V.F82.K6_4_3.val seq key hi va old has host gr bo ma li ps ss pa else bif of == 4 && st == 4 then V.F82.K6_4_4.val seq key hi va old has host gr bo ma li ps ss pa else V.F82.K6_5_1.val seq key hi va old has host gr bo ma li ps ss pa) else 0
/-- What Check says. -/
def chk (m : D66) : Int := chkA m.1 m.2.1 m.2.2.1 m.2.2.2.1 m.2.2.2.2.1 m.2.2.2.2.2.1 m.2.2.2.2.2.2.1 m.2.2.2.2.2.2.2.1 m.2.2.2.2.2.2.2.2.1 m.2.2.2.2.2.2.2.2.2.1 m.2.2.2.2.2.2.2.2.2.2.1 m.2.2.2.2.2.2.2.2.2.2.2.1 m.2.2.2.2.2.2.2.2.2.2.2.2.1 m.2.2.2.2.2.2.2.2.2.2.2.2.2.1 m.2.2.2.2.2.2.2.2.2.2.2.2.2.2.1 m.2.2.2.2.2.2.2.2.2.2.2.2.2.2.2.1 m.2.2.2.2.2.2.2.2.2.2.2.2.2.2.2.2.1
theorem good6 {seq of st : Int} (h : bad6 seq of st = false) : of = 1 ∧ st = 1 ∨ of = 1 ∧ st = 2 ∨ of = 2 ∧ st = 1 ∨ of = 2 ∧ st = 4 ∨ of = 3 ∧ st = 1 ∨ of = 3 ∧ st = 2 ∨ of = 4 ∧ st = 1 ∨ of = 4 ∧ st = 3 ∨ of = 4 ∧ st = 4 ∨ of = 5 ∧ st = 1 := by
  unfold bad6 at h
  simp only [Bool.or_eq_false_iff, Bool.not_eq_false', Bool.and_eq_true, Bool.or_eq_true, decide_eq_true_eq, beq_iff_eq] at h
  obtain ⟨_, ⟨h2, h3⟩, h4⟩ := h
  rcases h4 with rfl | ⟨rfl, rfl | rfl⟩ | ⟨rfl, rfl⟩ | ⟨rfl, rfl | rfl⟩
  · have : of = 1 ∨ of = 2 ∨ of = 3 ∨ of = 4 ∨ of = 5 := by omega
    rcases this with rfl | rfl | rfl | rfl | rfl <;> simp
  all_goals simp
theorem pre6 (seq key hi : Int) (va old : List Int) (has : Bool) (of st host gr bo ma li : Int) (ps : List D118) (ss : List D187) (pa : List Int) (h : bad6 seq of st = true) : V.F82.K6.Pre seq key hi va old has of st host gr bo ma li ps ss pa := by
  unfold V.F82.K6.Pre
  unfold bad6 at h
  revert h
  generalize decide (seq > 0) = a; generalize decide (of ≥ 1) = b; generalize decide (of ≤ 5) = c; generalize (st == 1) = d; generalize (st == 2) = e; generalize (st == 3) = f; generalize (st == 4) = g
  generalize (of == 1) = i; generalize (of == 2) = j; generalize (of == 3) = k; generalize (of == 4) = l
  cases a <;> try (intro _; trivial)
  cases b <;> try (intro _; trivial)
  cases c <;> try (intro _; trivial)
  cases d <;> cases e <;> cases f <;> cases g <;> try (intro _; trivial)
  all_goals (cases i <;> cases j <;> cases k <;> cases l <;> intro h <;> first | trivial | cases h)
theorem kinds {kd : Int} (h9 : kd ≠ 9) (h12 : kd ≠ 12) (h : ¬ (kd < 1 ∨ kd > 12)) : kd = 1 ∨ kd = 2 ∨ kd = 3 ∨ kd = 4 ∨ kd = 5 ∨ kd = 7 ∨ kd = 8 ∨ kd = 10 ∨ kd = 11 ∨ kd = 6 := by omega
namespace F82
noncomputable def ts : List Ty := [T66]
noncomputable def G : List AV → PV := pg1 T66 (fun m => [m.1 ≠ 9, m.1 ≠ 12, (mPairs m).length ≤ LB]) (fun m => .v (.int .i64) (chk m))
theorem all (kd : Int) (seq key hi : Int) (va old : List Int) (has : Bool) (of st host gr bo ma li : Int) (ps : List D118) (ss : List D187) (pa : List Int) (h9 : kd ≠ 9) (h12 : kd ≠ 12) (hp : ps.length ≤ LB) : ∃ F : CF, SoundF Tryz.prog 82 F ∧ F [.v T66 (kd, seq, key, hi, va, old, has, of, st, host, gr, bo, ma, li, ps, ss, pa, ())] [] fun r H => coRes H [.int .i64] r fun r' => r' = .v (.int .i64) (chkA kd seq key hi va old has of st host gr bo ma li ps ss pa) := by
  by_cases h0 : kd < 1 ∨ kd > 12
  · refine ⟨V.F82.cfI_X, V.F82.cfI_X_ok, ?_⟩
    show (V.F82.cfI_X [.v T66 (kd, seq, key, hi, va, old, has, of, st, host, gr, bo, ma, li, ps, ss, pa, ())] [] fun r H => coRes H [.int .i64] r fun r' => r' = .v (.int .i64) (chkA kd seq key hi va old has of st host gr bo ma li ps ss pa))
    rw [V.F82.K0.main]
    refine V.F82.K0.spec kd seq key hi va old has of st host gr bo ma li ps ss pa _ ?_ ?_
    · unfold V.F82.K0.Pre
      by_cases h1 : kd ≥ 1
      · rw [decide_eq_true h1, decide_eq_false (show ¬ kd ≤ 12 by omega)]; trivial
      · rw [decide_eq_false h1]; trivial
    · unfold chkA
      have : (decide (kd < 1) || decide (kd > 12)) = true := by rw [Bool.or_eq_true, decide_eq_true_eq, decide_eq_true_eq]; exact h0
      rw [this]; rfl
  rcases kinds h9 h12 h0 with rfl | rfl | rfl | rfl | rfl | rfl | rfl | rfl | rfl | rfl
  · refine ⟨V.F82.cfI, V.F82.cfI_ok, ?_⟩
    show (V.F82.cfI [.v T66 ((1 : Int), seq, key, hi, va, old, has, of, st, host, gr, bo, ma, li, ps, ss, pa, ())] [] fun r H => coRes H [.int .i64] r fun r' => r' = .v (.int .i64) (chkA 1 seq key hi va old has of st host gr bo ma li ps ss pa))
    rw [V.F82.K1.main]
    exact V.F82.K1.spec seq key hi va old has of st host gr bo ma li ps ss pa _ trivial rfl
  · refine ⟨V.F82.cfI, V.F82.cfI_ok, ?_⟩
    show (V.F82.cfI [.v T66 ((2 : Int), seq, key, hi, va, old, has, of, st, host, gr, bo, ma, li, ps, ss, pa, ())] [] fun r H => coRes H [.int .i64] r fun r' => r' = .v (.int .i64) (chkA 2 seq key hi va old has of st host gr bo ma li ps ss pa))
    rw [V.F82.K2.main]
    exact V.F82.K2.spec seq key hi va old has of st host gr bo ma li ps ss pa _ trivial rfl
  · refine ⟨V.F82.cfI, V.F82.cfI_ok, ?_⟩
    show (V.F82.cfI [.v T66 ((3 : Int), seq, key, hi, va, old, has, of, st, host, gr, bo, ma, li, ps, ss, pa, ())] [] fun r H => coRes H [.int .i64] r fun r' => r' = .v (.int .i64) (chkA 3 seq key hi va old has of st host gr bo ma li ps ss pa))
    rw [V.F82.K3.main]
    exact V.F82.K3.spec seq key hi va old has of st host gr bo ma li ps ss pa _ trivial rfl
  · refine ⟨V.F82.cfI, V.F82.cfI_ok, ?_⟩
    show (V.F82.cfI [.v T66 ((4 : Int), seq, key, hi, va, old, has, of, st, host, gr, bo, ma, li, ps, ss, pa, ())] [] fun r H => coRes H [.int .i64] r fun r' => r' = .v (.int .i64) (chkA 4 seq key hi va old has of st host gr bo ma li ps ss pa))
    rw [V.F82.K4.main]
    exact V.F82.K4.spec seq key hi va old has of st host gr bo ma li ps ss pa _ trivial rfl
  · refine ⟨V.F82.cfI, V.F82.cfI_ok, ?_⟩
    show (V.F82.cfI [.v T66 ((5 : Int), seq, key, hi, va, old, has, of, st, host, gr, bo, ma, li, ps, ss, pa, ())] [] fun r H => coRes H [.int .i64] r fun r' => r' = .v (.int .i64) (chkA 5 seq key hi va old has of st host gr bo ma li ps ss pa))
    rw [V.F82.K5.main]
    exact V.F82.K5.spec seq key hi va old has of st host gr bo ma li ps ss pa _ trivial rfl
  · refine ⟨V.F82.cfI, V.F82.cfI_ok, ?_⟩
    show (V.F82.cfI [.v T66 ((7 : Int), seq, key, hi, va, old, has, of, st, host, gr, bo, ma, li, ps, ss, pa, ())] [] fun r H => coRes H [.int .i64] r fun r' => r' = .v (.int .i64) (chkA 7 seq key hi va old has of st host gr bo ma li ps ss pa))
    rw [V.F82.K7.main]
    exact V.F82.K7.spec seq key hi va old has of st host gr bo ma li ps ss pa _ trivial rfl
  · refine ⟨V.F82.cfI, V.F82.cfI_ok, ?_⟩
    show (V.F82.cfI [.v T66 ((8 : Int), seq, key, hi, va, old, has, of, st, host, gr, bo, ma, li, ps, ss, pa, ())] [] fun r H => coRes H [.int .i64] r fun r' => r' = .v (.int .i64) (chkA 8 seq key hi va old has of st host gr bo ma li ps ss pa))
    rw [V.F82.K8.main]
    exact V.F82.K8.spec seq key hi va old has of st host gr bo ma li ps ss pa _ trivial rfl
  · refine ⟨V.F82.cfI, V.F82.cfI_ok, ?_⟩
    show (V.F82.cfI [.v T66 ((10 : Int), seq, key, hi, va, old, has, of, st, host, gr, bo, ma, li, ps, ss, pa, ())] [] fun r H => coRes H [.int .i64] r fun r' => r' = .v (.int .i64) (chkA 10 seq key hi va old has of st host gr bo ma li ps ss pa))
    rw [V.F82.K10.main]
    exact V.F82.K10.spec seq key hi va old has of st host gr bo ma li ps ss pa _ trivial rfl
  · refine ⟨V.F82.cfI, V.F82.cfI_ok, ?_⟩
    show (V.F82.cfI [.v T66 ((11 : Int), seq, key, hi, va, old, has, of, st, host, gr, bo, ma, li, ps, ss, pa, ())] [] fun r H => coRes H [.int .i64] r fun r' => r' = .v (.int .i64) (chkA 11 seq key hi va old has of st host gr bo ma li ps ss pa))
    rw [V.F82.K11.main]
    exact V.F82.K11.spec seq key hi va old has of st host gr bo ma li ps ss pa _ trivial rfl
  cases hb : bad6 seq of st with
  | true =>
    refine ⟨V.F82.cfI_A, V.F82.cfI_A_ok, ?_⟩
    show (V.F82.cfI_A [.v T66 ((6 : Int), seq, key, hi, va, old, has, of, st, host, gr, bo, ma, li, ps, ss, pa, ())] [] fun r H => coRes H [.int .i64] r fun r' => r' = .v (.int .i64) (bif bad6 seq of st then 35 else bif of == 1 && st == 1 then V.F82.K6_1_1.val seq key hi va old has host gr bo ma li ps ss pa else bif of == 1 && st == 2 then V.F82.K6_1_2.val seq key hi va old has host gr bo ma li ps ss pa else bif of == 2 && st == 1 then V.F82.K6_2_1.val seq key hi va old has host gr bo ma li ps ss pa else bif of == 2 && st == 4 then V2.F82.K6_2_4.val seq key hi va old has host gr bo ma li ps ss pa else bif of == 3 && st == 1 then V.F82.K6_3_1.val seq key hi va old has host gr bo ma li ps ss pa else bif of == 3 && st == 2 then V2.F82.K6_3_2.val seq key hi va old has host gr bo ma li ps ss pa else bif of == 4 && st == 1 then V.F82.K6_4_1.val seq key hi va old has host gr bo ma li ps ss pa else bif of == 4 && st == 3 then V.F82.K6_4_3.val seq key hi va old has host gr bo ma li ps ss pa else bif of == 4 && st == 4 then V.F82.K6_4_4.val seq key hi va old has host gr bo ma li ps ss pa else V.F82.K6_5_1.val seq key hi va old has host gr bo ma li ps ss pa))
    rw [V.F82.K6.main, hb]
    exact V.F82.K6.spec seq key hi va old has of st host gr bo ma li ps ss pa _ (pre6 seq key hi va old has of st host gr bo ma li ps ss pa hb) rfl
  | false =>
    rcases good6 hb with ⟨rfl, rfl⟩ | ⟨rfl, rfl⟩ | ⟨rfl, rfl⟩ | ⟨rfl, rfl⟩ | ⟨rfl, rfl⟩ | ⟨rfl, rfl⟩ | ⟨rfl, rfl⟩ | ⟨rfl, rfl⟩ | ⟨rfl, rfl⟩ | ⟨rfl, rfl⟩
    · refine ⟨V.F82.cfI, V.F82.cfI_ok, ?_⟩
      show (V.F82.cfI [.v T66 ((6 : Int), seq, key, hi, va, old, has, (1 : Int), (1 : Int), host, gr, bo, ma, li, ps, ss, pa, ())] [] fun r H => coRes H [.int .i64] r fun r' => r' = .v (.int .i64) (bif bad6 seq 1 1 then 35 else bif (1 : Int) == 1 && (1 : Int) == 1 then V.F82.K6_1_1.val seq key hi va old has host gr bo ma li ps ss pa else bif (1 : Int) == 1 && (1 : Int) == 2 then V.F82.K6_1_2.val seq key hi va old has host gr bo ma li ps ss pa else bif (1 : Int) == 2 && (1 : Int) == 1 then V.F82.K6_2_1.val seq key hi va old has host gr bo ma li ps ss pa else bif (1 : Int) == 2 && (1 : Int) == 4 then V2.F82.K6_2_4.val seq key hi va old has host gr bo ma li ps ss pa else bif (1 : Int) == 3 && (1 : Int) == 1 then V.F82.K6_3_1.val seq key hi va old has host gr bo ma li ps ss pa else bif (1 : Int) == 3 && (1 : Int) == 2 then V2.F82.K6_3_2.val seq key hi va old has host gr bo ma li ps ss pa else bif (1 : Int) == 4 && (1 : Int) == 1 then V.F82.K6_4_1.val seq key hi va old has host gr bo ma li ps ss pa else bif (1 : Int) == 4 && (1 : Int) == 3 then V.F82.K6_4_3.val seq key hi va old has host gr bo ma li ps ss pa else bif (1 : Int) == 4 && (1 : Int) == 4 then V.F82.K6_4_4.val seq key hi va old has host gr bo ma li ps ss pa else V.F82.K6_5_1.val seq key hi va old has host gr bo ma li ps ss pa))
      rw [V.F82.K6_1_1.main, hb]
      exact V.F82.K6_1_1.spec seq key hi va old has host gr bo ma li ps ss pa _ trivial rfl
    · refine ⟨V.F82.cfI, V.F82.cfI_ok, ?_⟩
      show (V.F82.cfI [.v T66 ((6 : Int), seq, key, hi, va, old, has, (1 : Int), (2 : Int), host, gr, bo, ma, li, ps, ss, pa, ())] [] fun r H => coRes H [.int .i64] r fun r' => r' = .v (.int .i64) (bif bad6 seq 1 2 then 35 else bif (1 : Int) == 1 && (2 : Int) == 1 then V.F82.K6_1_1.val seq key hi va old has host gr bo ma li ps ss pa else bif (1 : Int) == 1 && (2 : Int) == 2 then V.F82.K6_1_2.val seq key hi va old has host gr bo ma li ps ss pa else bif (1 : Int) == 2 && (2 : Int) == 1 then V.F82.K6_2_1.val seq key hi va old has host gr bo ma li ps ss pa else bif (1 : Int) == 2 && (2 : Int) == 4 then V2.F82.K6_2_4.val seq key hi va old has host gr bo ma li ps ss pa else bif (1 : Int) == 3 && (2 : Int) == 1 then V.F82.K6_3_1.val seq key hi va old has host gr bo ma li ps ss pa else bif (1 : Int) == 3 && (2 : Int) == 2 then V2.F82.K6_3_2.val seq key hi va old has host gr bo ma li ps ss pa else bif (1 : Int) == 4 && (2 : Int) == 1 then V.F82.K6_4_1.val seq key hi va old has host gr bo ma li ps ss pa else bif (1 : Int) == 4 && (2 : Int) == 3 then V.F82.K6_4_3.val seq key hi va old has host gr bo ma li ps ss pa else bif (1 : Int) == 4 && (2 : Int) == 4 then V.F82.K6_4_4.val seq key hi va old has host gr bo ma li ps ss pa else V.F82.K6_5_1.val seq key hi va old has host gr bo ma li ps ss pa))
      rw [V.F82.K6_1_2.main, hb]
      exact V.F82.K6_1_2.spec seq key hi va old has host gr bo ma li ps ss pa _ trivial rfl
    · refine ⟨V.F82.cfI, V.F82.cfI_ok, ?_⟩
      show (V.F82.cfI [.v T66 ((6 : Int), seq, key, hi, va, old, has, (2 : Int), (1 : Int), host, gr, bo, ma, li, ps, ss, pa, ())] [] fun r H => coRes H [.int .i64] r fun r' => r' = .v (.int .i64) (bif bad6 seq 2 1 then 35 else bif (2 : Int) == 1 && (1 : Int) == 1 then V.F82.K6_1_1.val seq key hi va old has host gr bo ma li ps ss pa else bif (2 : Int) == 1 && (1 : Int) == 2 then V.F82.K6_1_2.val seq key hi va old has host gr bo ma li ps ss pa else bif (2 : Int) == 2 && (1 : Int) == 1 then V.F82.K6_2_1.val seq key hi va old has host gr bo ma li ps ss pa else bif (2 : Int) == 2 && (1 : Int) == 4 then V2.F82.K6_2_4.val seq key hi va old has host gr bo ma li ps ss pa else bif (2 : Int) == 3 && (1 : Int) == 1 then V.F82.K6_3_1.val seq key hi va old has host gr bo ma li ps ss pa else bif (2 : Int) == 3 && (1 : Int) == 2 then V2.F82.K6_3_2.val seq key hi va old has host gr bo ma li ps ss pa else bif (2 : Int) == 4 && (1 : Int) == 1 then V.F82.K6_4_1.val seq key hi va old has host gr bo ma li ps ss pa else bif (2 : Int) == 4 && (1 : Int) == 3 then V.F82.K6_4_3.val seq key hi va old has host gr bo ma li ps ss pa else bif (2 : Int) == 4 && (1 : Int) == 4 then V.F82.K6_4_4.val seq key hi va old has host gr bo ma li ps ss pa else V.F82.K6_5_1.val seq key hi va old has host gr bo ma li ps ss pa))
      rw [V.F82.K6_2_1.main, hb]
      exact V.F82.K6_2_1.spec seq key hi va old has host gr bo ma li ps ss pa _ trivial rfl
    · refine ⟨V2.F82.cfI, V2.F82.cfI_ok, ?_⟩
      show (V2.F82.cfI [.v T66 ((6 : Int), seq, key, hi, va, old, has, (2 : Int), (4 : Int), host, gr, bo, ma, li, ps, ss, pa, ())] [] fun r H => coRes H [.int .i64] r fun r' => r' = .v (.int .i64) (bif bad6 seq 2 4 then 35 else bif (2 : Int) == 1 && (4 : Int) == 1 then V.F82.K6_1_1.val seq key hi va old has host gr bo ma li ps ss pa else bif (2 : Int) == 1 && (4 : Int) == 2 then V.F82.K6_1_2.val seq key hi va old has host gr bo ma li ps ss pa else bif (2 : Int) == 2 && (4 : Int) == 1 then V.F82.K6_2_1.val seq key hi va old has host gr bo ma li ps ss pa else bif (2 : Int) == 2 && (4 : Int) == 4 then V2.F82.K6_2_4.val seq key hi va old has host gr bo ma li ps ss pa else bif (2 : Int) == 3 && (4 : Int) == 1 then V.F82.K6_3_1.val seq key hi va old has host gr bo ma li ps ss pa else bif (2 : Int) == 3 && (4 : Int) == 2 then V2.F82.K6_3_2.val seq key hi va old has host gr bo ma li ps ss pa else bif (2 : Int) == 4 && (4 : Int) == 1 then V.F82.K6_4_1.val seq key hi va old has host gr bo ma li ps ss pa else bif (2 : Int) == 4 && (4 : Int) == 3 then V.F82.K6_4_3.val seq key hi va old has host gr bo ma li ps ss pa else bif (2 : Int) == 4 && (4 : Int) == 4 then V.F82.K6_4_4.val seq key hi va old has host gr bo ma li ps ss pa else V.F82.K6_5_1.val seq key hi va old has host gr bo ma li ps ss pa))
      rw [V2.F82.K6_2_4.main, hb]
      exact V2.F82.K6_2_4.spec seq key hi va old has host gr bo ma li ps ss pa _ trivial rfl
    · refine ⟨V.F82.cfI, V.F82.cfI_ok, ?_⟩
      show (V.F82.cfI [.v T66 ((6 : Int), seq, key, hi, va, old, has, (3 : Int), (1 : Int), host, gr, bo, ma, li, ps, ss, pa, ())] [] fun r H => coRes H [.int .i64] r fun r' => r' = .v (.int .i64) (bif bad6 seq 3 1 then 35 else bif (3 : Int) == 1 && (1 : Int) == 1 then V.F82.K6_1_1.val seq key hi va old has host gr bo ma li ps ss pa else bif (3 : Int) == 1 && (1 : Int) == 2 then V.F82.K6_1_2.val seq key hi va old has host gr bo ma li ps ss pa else bif (3 : Int) == 2 && (1 : Int) == 1 then V.F82.K6_2_1.val seq key hi va old has host gr bo ma li ps ss pa else bif (3 : Int) == 2 && (1 : Int) == 4 then V2.F82.K6_2_4.val seq key hi va old has host gr bo ma li ps ss pa else bif (3 : Int) == 3 && (1 : Int) == 1 then V.F82.K6_3_1.val seq key hi va old has host gr bo ma li ps ss pa else bif (3 : Int) == 3 && (1 : Int) == 2 then V2.F82.K6_3_2.val seq key hi va old has host gr bo ma li ps ss pa else bif (3 : Int) == 4 && (1 : Int) == 1 then V.F82.K6_4_1.val seq key hi va old has host gr bo ma li ps ss pa else bif (3 : Int) == 4 && (1 : Int) == 3 then V.F82.K6_4_3.val seq key hi va old has host gr bo ma li ps ss pa else bif (3 : Int) == 4 && (1 : Int) == 4 then V.F82.K6_4_4.val seq key hi va old has host gr bo ma li ps ss pa else V.F82.K6_5_1.val seq key hi va old has host gr bo ma li ps ss pa))
      rw [V.F82.K6_3_1.main, hb]
      exact V.F82.K6_3_1.spec seq key hi va old has host gr bo ma li ps ss pa _ trivial rfl
    · refine ⟨V2.F82.cfI, V2.F82.cfI_ok, ?_⟩
      show (V2.F82.cfI [.v T66 ((6 : Int), seq, key, hi, va, old, has, (3 : Int), (2 : Int), host, gr, bo, ma, li, ps, ss, pa, ())] [] fun r H => coRes H [.int .i64] r fun r' => r' = .v (.int .i64) (bif bad6 seq 3 2 then 35 else bif (3 : Int) == 1 && (2 : Int) == 1 then V.F82.K6_1_1.val seq key hi va old has host gr bo ma li ps ss pa else bif (3 : Int) == 1 && (2 : Int) == 2 then V.F82.K6_1_2.val seq key hi va old has host gr bo ma li ps ss pa else bif (3 : Int) == 2 && (2 : Int) == 1 then V.F82.K6_2_1.val seq key hi va old has host gr bo ma li ps ss pa else bif (3 : Int) == 2 && (2 : Int) == 4 then V2.F82.K6_2_4.val seq key hi va old has host gr bo ma li ps ss pa else bif (3 : Int) == 3 && (2 : Int) == 1 then V.F82.K6_3_1.val seq key hi va old has host gr bo ma li ps ss pa else bif (3 : Int) == 3 && (2 : Int) == 2 then V2.F82.K6_3_2.val seq key hi va old has host gr bo ma li ps ss pa else bif (3 : Int) == 4 && (2 : Int) == 1 then V.F82.K6_4_1.val seq key hi va old has host gr bo ma li ps ss pa else bif (3 : Int) == 4 && (2 : Int) == 3 then V.F82.K6_4_3.val seq key hi va old has host gr bo ma li ps ss pa else bif (3 : Int) == 4 && (2 : Int) == 4 then V.F82.K6_4_4.val seq key hi va old has host gr bo ma li ps ss pa else V.F82.K6_5_1.val seq key hi va old has host gr bo ma li ps ss pa))
      rw [V2.F82.K6_3_2.main, hb]
      exact V2.F82.K6_3_2.spec seq key hi va old has host gr bo ma li ps ss pa _ trivial rfl
    · refine ⟨V.F82.cfI, V.F82.cfI_ok, ?_⟩
      show (V.F82.cfI [.v T66 ((6 : Int), seq, key, hi, va, old, has, (4 : Int), (1 : Int), host, gr, bo, ma, li, ps, ss, pa, ())] [] fun r H => coRes H [.int .i64] r fun r' => r' = .v (.int .i64) (bif bad6 seq 4 1 then 35 else bif (4 : Int) == 1 && (1 : Int) == 1 then V.F82.K6_1_1.val seq key hi va old has host gr bo ma li ps ss pa else bif (4 : Int) == 1 && (1 : Int) == 2 then V.F82.K6_1_2.val seq key hi va old has host gr bo ma li ps ss pa else bif (4 : Int) == 2 && (1 : Int) == 1 then V.F82.K6_2_1.val seq key hi va old has host gr bo ma li ps ss pa else bif (4 : Int) == 2 && (1 : Int) == 4 then V2.F82.K6_2_4.val seq key hi va old has host gr bo ma li ps ss pa else bif (4 : Int) == 3 && (1 : Int) == 1 then V.F82.K6_3_1.val seq key hi va old has host gr bo ma li ps ss pa else bif (4 : Int) == 3 && (1 : Int) == 2 then V2.F82.K6_3_2.val seq key hi va old has host gr bo ma li ps ss pa else bif (4 : Int) == 4 && (1 : Int) == 1 then V.F82.K6_4_1.val seq key hi va old has host gr bo ma li ps ss pa else bif (4 : Int) == 4 && (1 : Int) == 3 then V.F82.K6_4_3.val seq key hi va old has host gr bo ma li ps ss pa else bif (4 : Int) == 4 && (1 : Int) == 4 then V.F82.K6_4_4.val seq key hi va old has host gr bo ma li ps ss pa else V.F82.K6_5_1.val seq key hi va old has host gr bo ma li ps ss pa))
      rw [V.F82.K6_4_1.main, hb]
      exact V.F82.K6_4_1.spec seq key hi va old has host gr bo ma li ps ss pa _ trivial rfl
    · refine ⟨V.F82.cfI, V.F82.cfI_ok, ?_⟩
      show (V.F82.cfI [.v T66 ((6 : Int), seq, key, hi, va, old, has, (4 : Int), (3 : Int), host, gr, bo, ma, li, ps, ss, pa, ())] [] fun r H => coRes H [.int .i64] r fun r' => r' = .v (.int .i64) (bif bad6 seq 4 3 then 35 else bif (4 : Int) == 1 && (3 : Int) == 1 then V.F82.K6_1_1.val seq key hi va old has host gr bo ma li ps ss pa else bif (4 : Int) == 1 && (3 : Int) == 2 then V.F82.K6_1_2.val seq key hi va old has host gr bo ma li ps ss pa else bif (4 : Int) == 2 && (3 : Int) == 1 then V.F82.K6_2_1.val seq key hi va old has host gr bo ma li ps ss pa else bif (4 : Int) == 2 && (3 : Int) == 4 then V2.F82.K6_2_4.val seq key hi va old has host gr bo ma li ps ss pa else bif (4 : Int) == 3 && (3 : Int) == 1 then V.F82.K6_3_1.val seq key hi va old has host gr bo ma li ps ss pa else bif (4 : Int) == 3 && (3 : Int) == 2 then V2.F82.K6_3_2.val seq key hi va old has host gr bo ma li ps ss pa else bif (4 : Int) == 4 && (3 : Int) == 1 then V.F82.K6_4_1.val seq key hi va old has host gr bo ma li ps ss pa else bif (4 : Int) == 4 && (3 : Int) == 3 then V.F82.K6_4_3.val seq key hi va old has host gr bo ma li ps ss pa else bif (4 : Int) == 4 && (3 : Int) == 4 then V.F82.K6_4_4.val seq key hi va old has host gr bo ma li ps ss pa else V.F82.K6_5_1.val seq key hi va old has host gr bo ma li ps ss pa))
      rw [V.F82.K6_4_3.main, hb]
      exact V.F82.K6_4_3.spec seq key hi va old has host gr bo ma li ps ss pa _ trivial rfl
    · refine ⟨V.F82.cfI, V.F82.cfI_ok, ?_⟩
      show (V.F82.cfI [.v T66 ((6 : Int), seq, key, hi, va, old, has, (4 : Int), (4 : Int), host, gr, bo, ma, li, ps, ss, pa, ())] [] fun r H => coRes H [.int .i64] r fun r' => r' = .v (.int .i64) (bif bad6 seq 4 4 then 35 else bif (4 : Int) == 1 && (4 : Int) == 1 then V.F82.K6_1_1.val seq key hi va old has host gr bo ma li ps ss pa else bif (4 : Int) == 1 && (4 : Int) == 2 then V.F82.K6_1_2.val seq key hi va old has host gr bo ma li ps ss pa else bif (4 : Int) == 2 && (4 : Int) == 1 then V.F82.K6_2_1.val seq key hi va old has host gr bo ma li ps ss pa else bif (4 : Int) == 2 && (4 : Int) == 4 then V2.F82.K6_2_4.val seq key hi va old has host gr bo ma li ps ss pa else bif (4 : Int) == 3 && (4 : Int) == 1 then V.F82.K6_3_1.val seq key hi va old has host gr bo ma li ps ss pa else bif (4 : Int) == 3 && (4 : Int) == 2 then V2.F82.K6_3_2.val seq key hi va old has host gr bo ma li ps ss pa else bif (4 : Int) == 4 && (4 : Int) == 1 then V.F82.K6_4_1.val seq key hi va old has host gr bo ma li ps ss pa else bif (4 : Int) == 4 && (4 : Int) == 3 then V.F82.K6_4_3.val seq key hi va old has host gr bo ma li ps ss pa else bif (4 : Int) == 4 && (4 : Int) == 4 then V.F82.K6_4_4.val seq key hi va old has host gr bo ma li ps ss pa else V.F82.K6_5_1.val seq key hi va old has host gr bo ma li ps ss pa))
      rw [V.F82.K6_4_4.main, hb]
      exact V.F82.K6_4_4.spec seq key hi va old has host gr bo ma li ps ss pa _ trivial rfl
    · refine ⟨V.F82.cfI, V.F82.cfI_ok, ?_⟩
      show (V.F82.cfI [.v T66 ((6 : Int), seq, key, hi, va, old, has, (5 : Int), (1 : Int), host, gr, bo, ma, li, ps, ss, pa, ())] [] fun r H => coRes H [.int .i64] r fun r' => r' = .v (.int .i64) (bif bad6 seq 5 1 then 35 else bif (5 : Int) == 1 && (1 : Int) == 1 then V.F82.K6_1_1.val seq key hi va old has host gr bo ma li ps ss pa else bif (5 : Int) == 1 && (1 : Int) == 2 then V.F82.K6_1_2.val seq key hi va old has host gr bo ma li ps ss pa else bif (5 : Int) == 2 && (1 : Int) == 1 then V.F82.K6_2_1.val seq key hi va old has host gr bo ma li ps ss pa else bif (5 : Int) == 2 && (1 : Int) == 4 then V2.F82.K6_2_4.val seq key hi va old has host gr bo ma li ps ss pa else bif (5 : Int) == 3 && (1 : Int) == 1 then V.F82.K6_3_1.val seq key hi va old has host gr bo ma li ps ss pa else bif (5 : Int) == 3 && (1 : Int) == 2 then V2.F82.K6_3_2.val seq key hi va old has host gr bo ma li ps ss pa else bif (5 : Int) == 4 && (1 : Int) == 1 then V.F82.K6_4_1.val seq key hi va old has host gr bo ma li ps ss pa else bif (5 : Int) == 4 && (1 : Int) == 3 then V.F82.K6_4_3.val seq key hi va old has host gr bo ma li ps ss pa else bif (5 : Int) == 4 && (1 : Int) == 4 then V.F82.K6_4_4.val seq key hi va old has host gr bo ma li ps ss pa else V.F82.K6_5_1.val seq key hi va old has host gr bo ma li ps ss pa))
      rw [V.F82.K6_5_1.main, hb]
      exact V.F82.K6_5_1.spec seq key hi va old has host gr bo ma li ps ss pa _ (by unfold V.F82.K6_5_1.Pre; exact bif_all trivial ⟨hp, bif_all trivial hp⟩) rfl
theorem ok : SoundP Tryz.prog 82 G := by
  unfold G
  refine soundP_case [.int .i64] (pg1_use (P := fun args q => ∃ F : CF, SoundF Tryz.prog 82 F ∧ F args [] fun r H => coRes H [.int .i64] r fun r' => r' = q.2) ?_)
  rintro ⟨kd, seq, key, hi, va, old, has, of, st, host, gr, bo, ma, li, ps, ss, pa, ⟨⟩⟩ ⟨h9, h12, hp, _⟩
  exact all kd seq key hi va old has of st host gr bo ma li ps ss pa h9 h12 hp
end F82

end Go.Proofs.YtmemeaaccgmeaaaGreat.Y
