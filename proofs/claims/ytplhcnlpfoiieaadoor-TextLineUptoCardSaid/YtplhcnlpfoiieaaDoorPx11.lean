-- Written by printx.py (this work's driver over the kit's print) out of the translation; Lean checks it.
import Derived.Test.YtplhcnlpfoiieaaDoorPx0
namespace Go.Proofs.YtplhcnlpfoiieaaDoor.P
open Go.RowKit Go.Proofs.YtplhcnlpfoiieaaDoorW.PrintWords Go.Proofs.YtplhcnlpfoiieaaDoorW.PrintLast Go.Proofs.YtplhcnlpfoiieaaDoorW.PrintMore
attribute [local go_sem] max2_int min2_int max_two min_two max_three min_three max_four min_four   -- for this text's walks alone
set_option linter.unusedVariables false
set_option linter.unusedSimpArgs false

/-! ### text_in: function 56 -/
def text_in.l0 : Nat → List (S109) → Int → Int → Int → Option (Bool)
  | 0, _, _, _, _ => none
  | k + 1, x0, x1, x5, x6 => if x5 < x6 then (if 0 ≤ (wrap64 (Int.tdiv (wrap64 (x5 + x6)) 2)) then (if (wrap64 (Int.tdiv (wrap64 (x5 + x6)) 2)) < (x0.length : Int) then (if x1 < ((rd_T109 x0 (wrap64 (Int.tdiv (wrap64 (x5 + x6)) 2))).f0) then (text_in.l0 k x0 x1 x5 (wrap64 (Int.tdiv (wrap64 (x5 + x6)) 2))) else (if x1 > ((rd_T109 x0 (wrap64 (Int.tdiv (wrap64 (x5 + x6)) 2))).f1) then (text_in.l0 k x0 x1 (wrap64 ((wrap64 (Int.tdiv (wrap64 (x5 + x6)) 2)) + 1)) x6) else (some true))) else (none)) else (none)) else (some false)
def text_in.f (k : Nat) (l0 : List (S109)) (a1 : Int) : Option (Bool) := text_in.l0 k l0 a1 0 (l0.length : Int)
theorem text_in.mono_l : ∀ k, (∀ y0 y1 y2 y3, LeO (text_in.l0 k y0 y1 y2 y3) (text_in.l0 (k + 1) y0 y1 y2 y3))
  | 0 => fun _ _ _ _ r h => by simp [text_in.l0] at h
  | k + 1 => by
    have ih0 := text_in.mono_l k
    · intro y0 y1 y2 y3
      unfold text_in.l0
      repeat' first
      | (with_reducible exact ih0 _ _ _ _)
      | (with_reducible exact LeO.refl _)
      | (with_reducible exact LeO.none _)
      | (with_reducible refine LeO.ite ?_ ?_)
      | (with_reducible refine LeO.bind ?_ (fun _ => ?_))
      | exact ih0 _ _ _ _
      | exact LeO.none _
      | refine LeO.ite ?_ ?_
      | refine LeO.bind ?_ (fun _ => ?_)
theorem text_in.mono : ∀ a0 a1 k, LeO (text_in.f k a0 a1) (text_in.f (k + 1) a0 a1) := by
  intro a0 a1 k
  have ih0 := text_in.mono_l k
  unfold text_in.f
  repeat' first
      | (with_reducible exact ih0 _ _ _ _)
      | (with_reducible exact LeO.refl _)
      | (with_reducible exact LeO.none _)
      | (with_reducible refine LeO.ite ?_ ?_)
      | (with_reducible refine LeO.bind ?_ (fun _ => ?_))
      | exact ih0 _ _ _ _
      | exact LeO.none _
      | refine LeO.ite ?_ ?_
      | refine LeO.bind ?_ (fun _ => ?_)
set_option maxHeartbeats 8000000 in
set_option maxRecDepth 100000 in
theorem text_in.calls (k : Nat) (A0 : Option Addr) (c0 : Nat) (l0 : List (S109)) (a1 : Int) (r : Bool) (w : World) (hr0 : Kd.C k109 w A0 l0.length l0) (hc0 : l0.length ≤ c0) (h : text_in.f k l0 a1 = some r) :
    Calls Tryd.prog 56 #[.slice A0 l0.length c0, .int .i32 a1] w fun e w' => e = .returned (.bool r) ∧ Drawn0 w w' := by
  have HR0 := Aside0.mk hr0
  have HC0 := Aside0.mk hc0
  clear hr0 hc0
  have H : (text_in.l0 k l0 a1 0 (l0.length : Int)) = some r := h
  clear h
  have H' := Aside0.mk H
  clear H
  go_enter Tryd.func56, Tryd.ntmps56
  go_wp2
  go_loopg [5, 6] k (fun kq v5 v6 w' => ∃ (x5_1 : Int) (x6_1 : Int), v5 = .int .i64 x5_1 ∧ v6 = .int .i64 x6_1 ∧ Aside0 (text_in.l0 kq l0 a1 x5_1 x6_1 = some r) ∧ Aside0 (kq ≤ k) ∧ Drawn0 w w')
  case atStart => exact ⟨(0), ((l0.length : Int)), (by first | rfl | (simp; done) | (simp [*]; done)), (by first | rfl | (simp; done) | (simp [*]; done)), H', ⟨Nat.le_refl _⟩, by repeat (first | exact Drawn0.refl _ | apply Drawn0.step)⟩
  case round =>
    clear H'
    try clear p2
    obtain ⟨x5_1, x6_1, rfl, rfl, HA, HK1, ⟨m1, rfl⟩⟩ := hrel
    cases gk with
    | zero => exact absurd HA.out (by simp [text_in.l0])
    | succ k1 =>
      have H := HA.out
      clear HA
      simp only [text_in.l0] at H
      by_cases c3 : x5_1 < x6_1
      · rw [if_pos c3] at H
        have c3b0 : decide (x5_1 < x6_1) = true := decide_eq_true c3
        clear c3
        obtain ⟨ji4, hji4⟩ : ∃ j_ : Int, (wrap64 (Int.tdiv (wrap64 (x5_1 + x6_1)) 2)) = j_ := ⟨_, rfl⟩
        replace H : (if 0 ≤ (ji4) then (if (ji4) < (l0.length : Int) then (if a1 < ((rd_T109 l0 (ji4)).f0) then (text_in.l0 k1 l0 a1 x5_1 ji4) else (if a1 > ((rd_T109 l0 (ji4)).f1) then (text_in.l0 k1 l0 a1 (wrap64 ((ji4) + 1)) x6_1) else (some true))) else (none)) else (none)) = some r := by first | (rw [hji4] at H; exact H) | (simp only [hji4] at H ⊢; exact H)
        have hji4w : (IntKind.i64.wrap (Int.tdiv (wrap64 (x5_1 + x6_1)) 2)) = ji4 := (i64_w _).trans hji4
        by_cases c5 : 0 ≤ (ji4)
        · rw [if_pos c5] at H
          have c5b0 : decide (0 ≤ (ji4)) = true := decide_eq_true c5
          clear c5
          by_cases c6 : (ji4) < (l0.length : Int)
          · rw [if_pos c6] at H
            have c6b0 : decide ((ji4) < (l0.length : Int)) = true := decide_eq_true c6
            clear c6
            by_cases c7 : a1 < ((rd_T109 l0 (ji4)).f0)
            · rw [if_pos c7] at H
              have c7b0 : decide (a1 < ((rd_T109 l0 (ji4)).f0)) = true := decide_eq_true c7
              clear c7
              have H' := Aside0.mk H
              clear H
              have p214 : 0 ≤ ((ji4) : Int) := of_decide_eq_true (by first | (with_reducible assumption) | assumption)
              have q214 : (ji4) < (l0.length : Int) := of_decide_eq_true (by first | (with_reducible assumption) | assumption)
              obtain ⟨ad214, e214, hx214_0, hx214_1⟩ := at_T109 HR0.out (ji4) p214 q214
              cases e214
              replace p214 := eq_true p214
              replace q214 := eq_true q214
              go_wp2
              go_roundg k1
              case measure => have := HK1.out; omega
              case rel => exact ⟨(x5_1), (ji4), (by first | rfl | (simp; done) | (simp [*]; done)), (by first | rfl | (simp; done) | (simp only [← hji4] <;> (first | rfl | simp)) | (simp [*]; done)), H', ⟨by have := HK1.out; omega⟩, by repeat (first | exact Drawn0.refl _ | apply Drawn0.step)⟩
            · rw [if_neg c7] at H
              have c7b0 : decide (a1 < ((rd_T109 l0 (ji4)).f0)) = false := decide_eq_false c7
              clear c7
              by_cases c8 : a1 > ((rd_T109 l0 (ji4)).f1)
              · rw [if_pos c8] at H
                have c8b0 : decide (((rd_T109 l0 (ji4)).f1) < a1) = true := decide_eq_true c8
                clear c8
                have H' := Aside0.mk H
                clear H
                have p214 : 0 ≤ ((ji4) : Int) := of_decide_eq_true (by first | (with_reducible assumption) | assumption)
                have q214 : (ji4) < (l0.length : Int) := of_decide_eq_true (by first | (with_reducible assumption) | assumption)
                obtain ⟨ad214, e214, hx214_0, hx214_1⟩ := at_T109 HR0.out (ji4) p214 q214
                cases e214
                replace p214 := eq_true p214
                replace q214 := eq_true q214
                have p215 : 0 ≤ ((ji4) : Int) := of_decide_eq_true (by first | (with_reducible assumption) | assumption)
                have q215 : (ji4) < (l0.length : Int) := of_decide_eq_true (by first | (with_reducible assumption) | assumption)
                obtain ⟨ad215, e215, hx215_0, hx215_1⟩ := at_T109 HR0.out (ji4) p215 q215
                obtain rfl : ad214 = ad215 := (by injection e215)
                replace p215 := eq_true p215
                replace q215 := eq_true q215
                go_wp2
                go_roundg k1
                case measure => have := HK1.out; omega
                case rel => exact ⟨(wrap64 ((ji4) + 1)), (x6_1), (by first | rfl | (simp; done) | (simp only [← hji4] <;> (first | rfl | simp)) | (simp [*]; done)), (by first | rfl | (simp; done) | (simp [*]; done)), H', ⟨by have := HK1.out; omega⟩, by repeat (first | exact Drawn0.refl _ | apply Drawn0.step)⟩
              · rw [if_neg c8] at H
                have c8b0 : decide (((rd_T109 l0 (ji4)).f1) < a1) = false := decide_eq_false c8
                clear c8
                obtain rfl := Option.some.inj H
                have p214 : 0 ≤ ((ji4) : Int) := of_decide_eq_true (by first | (with_reducible assumption) | assumption)
                have q214 : (ji4) < (l0.length : Int) := of_decide_eq_true (by first | (with_reducible assumption) | assumption)
                obtain ⟨ad214, e214, hx214_0, hx214_1⟩ := at_T109 HR0.out (ji4) p214 q214
                cases e214
                replace p214 := eq_true p214
                replace q214 := eq_true q214
                have p215 : 0 ≤ ((ji4) : Int) := of_decide_eq_true (by first | (with_reducible assumption) | assumption)
                have q215 : (ji4) < (l0.length : Int) := of_decide_eq_true (by first | (with_reducible assumption) | assumption)
                obtain ⟨ad215, e215, hx215_0, hx215_1⟩ := at_T109 HR0.out (ji4) p215 q215
                obtain rfl : ad214 = ad215 := (by injection e215)
                replace p215 := eq_true p215
                replace q215 := eq_true q215
                go_wp2
                go_ret
                exact ⟨by first | rfl | (simp; done) | (simp only [← hji4] <;> (first | rfl | simp)) | (simp [*]; done), by repeat (first | exact Drawn0.refl _ | apply Drawn0.step)⟩
          · rw [if_neg c6] at H
            exact absurd H (by simp)
        · rw [if_neg c5] at H
          exact absurd H (by simp)
      · rw [if_neg c3] at H
        have c3b0 : decide (x5_1 < x6_1) = false := decide_eq_false c3
        clear c3
        obtain rfl := Option.some.inj H
        go_wp2
        go_ret
        exact ⟨by first | rfl | (simp; done) | (simp [*]; done), by repeat (first | exact Drawn0.refl _ | apply Drawn0.step)⟩

/-! ### text_hidden: function 68 -/
def text_hidden.f  : Option ((List (S109))) := some (([(⟨0, 31⟩ : S109), (⟨127, 160⟩ : S109), (⟨173, 173⟩ : S109), (⟨1564, 1564⟩ : S109), (⟨5760, 5760⟩ : S109), (⟨6158, 6158⟩ : S109), (⟨8192, 8207⟩ : S109), (⟨8232, 8239⟩ : S109), (⟨8287, 8303⟩ : S109), (⟨12288, 12288⟩ : S109), (⟨55296, 57343⟩ : S109), (⟨57344, 63743⟩ : S109), (⟨64976, 65007⟩ : S109), (⟨65279, 65279⟩ : S109), (⟨65529, 65531⟩ : S109), (⟨917504, 1114111⟩ : S109)] : List (S109)))
set_option maxHeartbeats 8000000 in
set_option maxRecDepth 100000 in
theorem text_hidden.calls  (r : List (S109)) (w : World) (h : text_hidden.f  = some r) :
    Calls Tryd.prog 68 #[] w fun e w' => ∃ v0_ : Value, e = .returned (v0_) ∧ Kd.R k109 109 w' w.heap.size (fun _ => True) v0_ r ∧ Below w.heap.size w w' := by
  have hu109 := Tryd.underlying109
  have HB := Aside0.mk (Below.refl w.heap.size w)
  have H : (some (([(⟨0, 31⟩ : S109), (⟨127, 160⟩ : S109), (⟨173, 173⟩ : S109), (⟨1564, 1564⟩ : S109), (⟨5760, 5760⟩ : S109), (⟨6158, 6158⟩ : S109), (⟨8192, 8207⟩ : S109), (⟨8232, 8239⟩ : S109), (⟨8287, 8303⟩ : S109), (⟨12288, 12288⟩ : S109), (⟨55296, 57343⟩ : S109), (⟨57344, 63743⟩ : S109), (⟨64976, 65007⟩ : S109), (⟨65279, 65279⟩ : S109), (⟨65529, 65531⟩ : S109), (⟨917504, 1114111⟩ : S109)] : List (S109)))) = some r := h
  clear h
  obtain ⟨y216, hy216⟩ : ∃ y_ : List (S109), y_ = (([(⟨0, 31⟩ : S109), (⟨127, 160⟩ : S109), (⟨173, 173⟩ : S109), (⟨1564, 1564⟩ : S109), (⟨5760, 5760⟩ : S109), (⟨6158, 6158⟩ : S109), (⟨8192, 8207⟩ : S109), (⟨8232, 8239⟩ : S109), (⟨8287, 8303⟩ : S109), (⟨12288, 12288⟩ : S109), (⟨55296, 57343⟩ : S109), (⟨57344, 63743⟩ : S109), (⟨64976, 65007⟩ : S109), (⟨65279, 65279⟩ : S109), (⟨65529, 65531⟩ : S109), (⟨917504, 1114111⟩ : S109)] : List (S109))) := ⟨_, rfl⟩
  replace H : (some y216) = some r := by first | (rw [hy216]; with_reducible exact H) | (have H2_ := (Option.bind_some _ _).symm.trans H; rw [hy216]; with_reducible exact H2_) | (have H2_ := (Option.bind_some _ _).symm.trans H; with_reducible exact H2_) | with_reducible exact H | (rw [hy216]; exact H) | exact H
  have Ny216 := Aside0.mk hy216
  clear hy216
  obtain rfl := Option.some.inj H
  go_enter Tryd.func68, Tryd.ntmps68
  go_wp2_with (first | ((with_reducible refine gate_dst (N := 17) rfl ?_); refine Kd.R_lit k109 _ 109 ?hg (N := 17) ?hd (xs := ([(⟨0, 31⟩ : S109), (⟨127, 160⟩ : S109), (⟨173, 173⟩ : S109), (⟨1564, 1564⟩ : S109), (⟨5760, 5760⟩ : S109), (⟨6158, 6158⟩ : S109), (⟨8192, 8207⟩ : S109), (⟨8232, 8239⟩ : S109), (⟨8287, 8303⟩ : S109), (⟨12288, 12288⟩ : S109), (⟨55296, 57343⟩ : S109), (⟨57344, 63743⟩ : S109), (⟨64976, 65007⟩ : S109), (⟨65279, 65279⟩ : S109), (⟨65529, 65531⟩ : S109), (⟨917504, 1114111⟩ : S109)] : List (S109))) (inner := [.int .i32 0, .int .i32 31, .int .i32 127, .int .i32 160, .int .i32 173, .int .i32 173, .int .i32 1564, .int .i32 1564, .int .i32 5760, .int .i32 5760, .int .i32 6158, .int .i32 6158, .int .i32 8192, .int .i32 8207, .int .i32 8232, .int .i32 8239, .int .i32 8287, .int .i32 8303, .int .i32 12288, .int .i32 12288, .int .i32 55296, .int .i32 57343, .int .i32 57344, .int .i32 63743, .int .i32 64976, .int .i32 65007, .int .i32 65279, .int .i32 65279, .int .i32 65529, .int .i32 65531, .int .i32 917504, .int .i32 1114111]) (ok := fun _ => True) (okp := fun _ => True) ?hr ?hp (fun _ hk => hk) trivial (Below.refl _ _) (Nat.le_refl _) (by simp) ?_; (case hd => rfl); (case hg => rfl); (case hr => first | (go_simp; done) | (go_simp; rfl)); (case hp => exact (Reps.c2 (show Kd.M k109 _ _ _ (⟨0, 31⟩ : S109) [.int .i32 0, .int .i32 31] from (k109_mkM _ _ _ (⟨0, 31⟩ : S109) )) (Reps.c2 (show Kd.M k109 _ _ _ (⟨127, 160⟩ : S109) [.int .i32 127, .int .i32 160] from (k109_mkM _ _ _ (⟨127, 160⟩ : S109) )) (Reps.c2 (show Kd.M k109 _ _ _ (⟨173, 173⟩ : S109) [.int .i32 173, .int .i32 173] from (k109_mkM _ _ _ (⟨173, 173⟩ : S109) )) (Reps.c2 (show Kd.M k109 _ _ _ (⟨1564, 1564⟩ : S109) [.int .i32 1564, .int .i32 1564] from (k109_mkM _ _ _ (⟨1564, 1564⟩ : S109) )) (Reps.c2 (show Kd.M k109 _ _ _ (⟨5760, 5760⟩ : S109) [.int .i32 5760, .int .i32 5760] from (k109_mkM _ _ _ (⟨5760, 5760⟩ : S109) )) (Reps.c2 (show Kd.M k109 _ _ _ (⟨6158, 6158⟩ : S109) [.int .i32 6158, .int .i32 6158] from (k109_mkM _ _ _ (⟨6158, 6158⟩ : S109) )) (Reps.c2 (show Kd.M k109 _ _ _ (⟨8192, 8207⟩ : S109) [.int .i32 8192, .int .i32 8207] from (k109_mkM _ _ _ (⟨8192, 8207⟩ : S109) )) (Reps.c2 (show Kd.M k109 _ _ _ (⟨8232, 8239⟩ : S109) [.int .i32 8232, .int .i32 8239] from (k109_mkM _ _ _ (⟨8232, 8239⟩ : S109) )) (Reps.c2 (show Kd.M k109 _ _ _ (⟨8287, 8303⟩ : S109) [.int .i32 8287, .int .i32 8303] from (k109_mkM _ _ _ (⟨8287, 8303⟩ : S109) )) (Reps.c2 (show Kd.M k109 _ _ _ (⟨12288, 12288⟩ : S109) [.int .i32 12288, .int .i32 12288] from (k109_mkM _ _ _ (⟨12288, 12288⟩ : S109) )) (Reps.c2 (show Kd.M k109 _ _ _ (⟨55296, 57343⟩ : S109) [.int .i32 55296, .int .i32 57343] from (k109_mkM _ _ _ (⟨55296, 57343⟩ : S109) )) (Reps.c2 (show Kd.M k109 _ _ _ (⟨57344, 63743⟩ : S109) [.int .i32 57344, .int .i32 63743] from (k109_mkM _ _ _ (⟨57344, 63743⟩ : S109) )) (Reps.c2 (show Kd.M k109 _ _ _ (⟨64976, 65007⟩ : S109) [.int .i32 64976, .int .i32 65007] from (k109_mkM _ _ _ (⟨64976, 65007⟩ : S109) )) (Reps.c2 (show Kd.M k109 _ _ _ (⟨65279, 65279⟩ : S109) [.int .i32 65279, .int .i32 65279] from (k109_mkM _ _ _ (⟨65279, 65279⟩ : S109) )) (Reps.c2 (show Kd.M k109 _ _ _ (⟨65529, 65531⟩ : S109) [.int .i32 65529, .int .i32 65531] from (k109_mkM _ _ _ (⟨65529, 65531⟩ : S109) )) (Reps.c2 (show Kd.M k109 _ _ _ (⟨917504, 1114111⟩ : S109) [.int .i32 917504, .int .i32 1114111] from (k109_mkM _ _ _ (⟨917504, 1114111⟩ : S109) )) (Reps.none _ _)))))))))))))))))); intro v217 w1 ho2 hb hg_ hnew_; clear hg_ hnew_; (first | rw [← Ny216.out] at ho2 | (simp only [Int.reduceToNat] at ho2; rw [← Ny216.out] at ho2)); have n0_ := Aside0.mk (Kd.R_lower ho2 (below_size (by repeat (first | (with_reducible first | exact HB.out | apply below_alloc | apply pw_below_drewN | apply below_drew1) | exact HB.out)))); have n1_ := Aside0.mk (below_step (by repeat (first | (with_reducible first | exact HB.out | apply below_alloc | apply pw_below_drewN | apply below_drew1) | exact HB.out)) hb); clear HB; have HO218 := n0_; have HB := n1_; clear n0_ n1_; clear hb ho2))
  go_ret
  exact ⟨_, by first | rfl | (simp [errW_none, errW_some] <;> rfl) | (simp [*, errW_none, errW_some] <;> rfl), by (with_reducible repeat (first | apply Kd.R_alloc | apply Kd.R_drewN | apply Kd.R_drew)); exact HO218.out, by repeat (first | (with_reducible first | exact HB.out | apply below_alloc | apply pw_below_drewN | apply below_drew1) | exact HB.out)⟩

/-! ### text_isHidden: function 50 -/
def text_isHidden.j0 : Nat → Int → Bool → Option (Bool)
  | 0, _, _ => none
  | k + 1, x0, x13 => if x13 = true then (some true) else ((text_hidden.f).bind fun t219 => ((text_in.f k t219 x0).bind fun t222 => (some t222)))
def text_isHidden.f (k : Nat) (a0 : Int) : Option (Bool) := if a0 < 0 then (text_isHidden.j0 k a0 true) else (if a0 > 1114111 then (text_isHidden.j0 k a0 true) else (text_isHidden.j0 k a0 ((Go.bits .and .i32 a0 65534) == 65534)))
theorem text_isHidden.mono_l : ∀ k, (∀ y0 y1, LeO (text_isHidden.j0 k y0 y1) (text_isHidden.j0 (k + 1) y0 y1))
  | 0 => fun _ _ r h => by simp [text_isHidden.j0] at h
  | k + 1 => by
    have ih0 := text_isHidden.mono_l k
    · intro y0 y1
      unfold text_isHidden.j0
      repeat' first
      | (with_reducible exact ih0 _ _)
      | (with_reducible exact text_in.mono _ _ _)
      | (with_reducible exact LeO.refl _)
      | (with_reducible exact LeO.none _)
      | (with_reducible refine LeO.ite ?_ ?_)
      | (with_reducible refine LeO.bind ?_ (fun _ => ?_))
      | exact ih0 _ _
      | exact text_in.mono _ _ _
      | exact LeO.none _
      | refine LeO.ite ?_ ?_
      | refine LeO.bind ?_ (fun _ => ?_)
theorem text_isHidden.mono : ∀ a0 k, LeO (text_isHidden.f k a0) (text_isHidden.f (k + 1) a0) := by
  intro a0 k
  have ih0 := text_isHidden.mono_l k
  unfold text_isHidden.f
  repeat' first
      | (with_reducible exact ih0 _ _)
      | (with_reducible exact text_in.mono _ _ _)
      | (with_reducible exact LeO.refl _)
      | (with_reducible exact LeO.none _)
      | (with_reducible refine LeO.ite ?_ ?_)
      | (with_reducible refine LeO.bind ?_ (fun _ => ?_))
      | exact ih0 _ _
      | exact text_in.mono _ _ _
      | exact LeO.none _
      | refine LeO.ite ?_ ?_
      | refine LeO.bind ?_ (fun _ => ?_)
set_option maxHeartbeats 8000000 in
set_option maxRecDepth 100000 in
theorem text_isHidden.calls (k : Nat) (a0 : Int) (r : Bool) (w : World) (h : text_isHidden.f k a0 = some r) :
    Calls Tryd.prog 50 #[.int .i32 a0] w fun e w' => e = .returned (.bool r) ∧ Below w.heap.size w w' := by
  have HB := Aside0.mk (Below.refl w.heap.size w)
  have H : (if a0 < 0 then (text_isHidden.j0 k a0 true) else (if a0 > 1114111 then (text_isHidden.j0 k a0 true) else (text_isHidden.j0 k a0 ((Go.bits .and .i32 a0 65534) == 65534)))) = some r := h
  clear h
  have HC2 := Aside0.mk H
  clear H
  go_enter Tryd.func50, Tryd.ntmps50
  go_upto_region 1 with (fail)
  go_cut [13] (fun v13 wc => ∃ (kq : Nat) (x13_1 : Bool), v13 = .bool x13_1 ∧ Aside0 (text_isHidden.j0 kq a0 x13_1 = some r) ∧ Aside0 (kq ≤ k) ∧ Aside0 (Below w.heap.size w wc))
  case first =>
    have H := HC2.out
    clear HC2
    by_cases c3 : a0 < 0
    · rw [if_pos c3] at H
      have c3b0 : decide (a0 < 0) = true := decide_eq_true c3
      clear c3
      (first | rw [c3b0] | (simp only [i64_w, i32_w]; rw [c3b0]) | skip)
      have H' := Aside0.mk H
      clear H
      go_wp2
      go_meet
      case rel => exact ⟨_, (true), (by first | rfl | (simp; done) | (simp [*]; done)), H', ⟨by first | omega | exact Nat.le_refl _⟩, ⟨by repeat (first | (with_reducible first | exact HB.out | apply below_alloc | apply pw_below_drewN | apply below_drew1) | exact HB.out)⟩⟩
    · rw [if_neg c3] at H
      have c3b0 : decide (a0 < 0) = false := decide_eq_false c3
      clear c3
      (first | rw [c3b0] | (simp only [i64_w, i32_w]; rw [c3b0]) | skip)
      by_cases c4 : a0 > 1114111
      · rw [if_pos c4] at H
        have c4b0 : decide (1114111 < a0) = true := decide_eq_true c4
        clear c4
        have H' := Aside0.mk H
        clear H
        go_wp2
        go_meet
        case rel => exact ⟨_, (true), (by first | rfl | (simp; done) | (simp [*]; done)), H', ⟨by first | omega | exact Nat.le_refl _⟩, ⟨by repeat (first | (with_reducible first | exact HB.out | apply below_alloc | apply pw_below_drewN | apply below_drew1) | exact HB.out)⟩⟩
      · rw [if_neg c4] at H
        have c4b0 : decide (1114111 < a0) = false := decide_eq_false c4
        clear c4
        have H' := Aside0.mk H
        clear H
        go_wp2
        go_meet
        case rel => exact ⟨_, (((Go.bits .and .i32 a0 65534) == 65534)), (by first | rfl | (simp; done) | (simp [*]; done)), H', ⟨by first | omega | exact Nat.le_refl _⟩, ⟨by repeat (first | (with_reducible first | exact HB.out | apply below_alloc | apply pw_below_drewN | apply below_drew1) | exact HB.out)⟩⟩
  case rest =>
    clear HC2
    try clear p2
    try clear c3
    try clear c3b0
    try clear c4
    try clear c4b0
    obtain ⟨kq, x13_1, rfl, HA, HJ1, HB⟩ := hcut
    cases kq with
    | zero => exact absurd HA.out (by simp [text_isHidden.j0])
    | succ kj1 =>
      have H := HA.out
      clear HA
      simp only [text_isHidden.j0] at H
      by_cases c5 : x13_1 = true
      · subst c5
        have H1 : (some true) = some r := by rw [if_pos rfl] at H; exact H
        clear H
        have H := H1
        clear H1
        obtain rfl := Option.some.inj H
        go_wp2
        go_ret
        exact ⟨by first | rfl | (simp [errW_none, errW_some] <;> rfl) | (simp [*, errW_none, errW_some] <;> rfl), by repeat (first | (with_reducible first | exact HB.out | apply below_alloc | apply pw_below_drewN | apply below_drew1) | exact HB.out)⟩
      · replace c5 := Bool.eq_false_iff.mpr c5
        subst c5
        have H1 : ((text_hidden.f).bind fun t219 => ((text_in.f kj1 t219 a0).bind fun t222 => (some t222))) = some r := by rw [if_neg (show ¬ (false = true) by decide)] at H; exact H
        clear H
        have H := H1
        clear H1
        replace H := Option.bind_eq_some_iff.mp H
        obtain ⟨t219, A60, H⟩ := H
        replace H : ((text_in.f kj1 t219 a0).bind fun t222 => (some t222)) = some r := H
        have A6 := Aside0.mk A60
        clear A60
        replace H := Option.bind_eq_some_iff.mp H
        obtain ⟨t222, A70, H⟩ := H
        replace H : (some t222) = some r := H
        have A7 := Aside0.mk A70
        clear A70
        obtain rfl := Option.some.inj H
        go_wp2_with (first | ((with_reducible refine gate_callee (f := 68) rfl ?_); refine goesL_ (some 14) rfl rfl Tryd.func68 (by kernel_rfl) rfl #[] rfl (by (try simp only [List.map_toArray, List.map_cons, List.map_nil]); first | done | rfl | (simp only [List.length_drop, List.length_take]; rfl)) ?_; (with_reducible refine (text_hidden.calls  t219 _ A6.out).mono ?_); rintro e w8 ⟨v220, rfl, ho0, hb⟩; refine ⟨_, rfl, ?_⟩; have n0_ := Aside0.mk (Kd.R_lower ho0 (below_size (by repeat (first | (with_reducible first | exact HB.out | apply below_alloc | apply pw_below_drewN | apply below_drew1) | exact HB.out)))); have n1_ := Aside0.mk (below_step (by repeat (first | (with_reducible first | exact HB.out | apply below_alloc | apply pw_below_drewN | apply below_drew1) | exact HB.out)) hb); clear HB; have HO221 := n0_; have HB := n1_; clear n0_ n1_; (try clear hb); (try clear hb2); (try clear hk); (try clear hi); (try clear ho0); obtain ⟨Ao9, co9, eo9⟩ := Kd.R_slice HO221.out; subst eo9) | ((with_reducible refine gate_callee (f := 56) rfl ?_); refine goesL_ (some 16) rfl rfl Tryd.func56 (by kernel_rfl) rfl #[.slice Ao9 t219.length co9, .int .i32 a0] rfl (by (try simp only [List.map_toArray, List.map_cons, List.map_nil]); first | done | rfl | (simp only [List.length_drop, List.length_take]; rfl)) ?_; (with_reducible refine (text_in.calls kj1 _ _ t219 a0 t222 _ ?side1 ?side2 A7.out).mono ?_); (case side1 => repeat (first | exact (Kd.R_reads' HO221.out).2.2 | (with_reducible refine Kd.C_alloc ?_ _) | (with_reducible refine Kd.C_drewN ?_ _) | (with_reducible refine Kd.C_drew ?_))); (case side2 => exact (Kd.R_reads' HO221.out).2.1); rintro e w' ⟨rfl, ⟨nd, rfl⟩⟩; refine ⟨_, rfl, ?_⟩))
        go_ret
        exact ⟨by first | rfl | (simp [errW_none, errW_some] <;> rfl) | (simp [*, errW_none, errW_some] <;> rfl), by repeat (first | (with_reducible first | exact HB.out | apply below_alloc | apply pw_below_drewN | apply below_drew1) | exact HB.out)⟩

-- NOT PRINTED: function 82 (utf8_decodeRuneInStringSlow)

end Go.Proofs.YtplhcnlpfoiieaaDoor.P
