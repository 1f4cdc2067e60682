-- Written by printx.py (this work's driver over the kit's print) out of the translation; Lean checks it.
import Derived.Test.YtghhpgpcbnkamaaPx0
namespace Go.Proofs.Ytghhpgpcbnkamaa.P
open Go.RowKit Go.Proofs.YtghhpgpcbnkamaaW.PrintWords Go.Proofs.YtghhpgpcbnkamaaW.PrintLast Go.Proofs.YtghhpgpcbnkamaaW.PrintMore
attribute [local go_sem] max2_int min2_int max_two min_two max_three min_three max_four min_four   -- for this text's walks alone
set_option linter.unusedVariables false
set_option linter.unusedSimpArgs false

/-! ### text_in: function 46 -/
def text_in.l0 : Nat → List (S105) → Int → Int → Int → Option (Bool)
  | 0, _, _, _, _ => none
  | k + 1, x0, x1, x5, x6 => if x5 < x6 then (if 0 ≤ (wrap64 (Int.tdiv (wrap64 (x5 + x6)) 2)) then (if (wrap64 (Int.tdiv (wrap64 (x5 + x6)) 2)) < (x0.length : Int) then (if x1 < ((rd_T105 x0 (wrap64 (Int.tdiv (wrap64 (x5 + x6)) 2))).f0) then (text_in.l0 k x0 x1 x5 (wrap64 (Int.tdiv (wrap64 (x5 + x6)) 2))) else (if x1 > ((rd_T105 x0 (wrap64 (Int.tdiv (wrap64 (x5 + x6)) 2))).f1) then (text_in.l0 k x0 x1 (wrap64 ((wrap64 (Int.tdiv (wrap64 (x5 + x6)) 2)) + 1)) x6) else (some true))) else (none)) else (none)) else (some false)
def text_in.f (k : Nat) (l0 : List (S105)) (a1 : Int) : Option (Bool) := text_in.l0 k l0 a1 0 (l0.length : Int)
theorem text_in.mono_l : ∀ k, (∀ y0 y1 y2 y3, LeO (text_in.l0 k y0 y1 y2 y3) (text_in.l0 (k + 1) y0 y1 y2 y3))
  | 0 => fun _ _ _ _ r h => by simp [text_in.l0] at h
  | k + 1 => by
    have ih0 := text_in.mono_l k
    · intro y0 y1 y2 y3
      unfold text_in.l0
      repeat' first
      | (with_reducible exact ih0 _ _ _ _)
      | (with_reducible exact LeO.refl _)
      | (with_reducible exact LeO.none _)
      | (with_reducible refine LeO.ite ?_ ?_)
      | (with_reducible refine LeO.bind ?_ (fun _ => ?_))
      | exact ih0 _ _ _ _
      | exact LeO.none _
      | refine LeO.ite ?_ ?_
      | refine LeO.bind ?_ (fun _ => ?_)
theorem text_in.mono : ∀ a0 a1 k, LeO (text_in.f k a0 a1) (text_in.f (k + 1) a0 a1) := by
  intro a0 a1 k
  have ih0 := text_in.mono_l k
  unfold text_in.f
  repeat' first
      | (with_reducible exact ih0 _ _ _ _)
      | (with_reducible exact LeO.refl _)
      | (with_reducible exact LeO.none _)
      | (with_reducible refine LeO.ite ?_ ?_)
      | (with_reducible refine LeO.bind ?_ (fun _ => ?_))
      | exact ih0 _ _ _ _
      | exact LeO.none _
      | refine LeO.ite ?_ ?_
      | refine LeO.bind ?_ (fun _ => ?_)
set_option maxHeartbeats 8000000 in
set_option maxRecDepth 100000 in
theorem text_in.calls (k : Nat) (A0 : Option Addr) (c0 : Nat) (l0 : List (S105)) (a1 : Int) (r : Bool) (w : World) (hr0 : Kd.C k105 w A0 l0.length l0) (hc0 : l0.length ≤ c0) (h : text_in.f k l0 a1 = some r) :
    Calls Try.prog 46 #[.slice A0 l0.length c0, .int .i32 a1] w fun e w' => e = .returned (.bool r) ∧ Drawn0 w w' := by
  have HR0 := Aside0.mk hr0
  have HC0 := Aside0.mk hc0
  clear hr0 hc0
  have H : (text_in.l0 k l0 a1 0 (l0.length : Int)) = some r := h
  clear h
  have H' := Aside0.mk H
  clear H
  go_enter Try.func46, Try.ntmps46
  go_wp2
  go_loopg [5, 6] k (fun kq v5 v6 w' => ∃ (x5_1 : Int) (x6_1 : Int), v5 = .int .i64 x5_1 ∧ v6 = .int .i64 x6_1 ∧ Aside0 (text_in.l0 kq l0 a1 x5_1 x6_1 = some r) ∧ Aside0 (kq ≤ k) ∧ Drawn0 w w')
  case atStart => exact ⟨(0), ((l0.length : Int)), (by first | rfl | (simp; done) | (simp [*]; done)), (by first | rfl | (simp; done) | (simp [*]; done)), H', ⟨Nat.le_refl _⟩, by repeat (first | exact Drawn0.refl _ | apply Drawn0.step)⟩
  case round =>
    clear H'
    try clear p2
    obtain ⟨x5_1, x6_1, rfl, rfl, HA, HK1, ⟨m1, rfl⟩⟩ := hrel
    cases gk with
    | zero => exact absurd HA.out (by simp [text_in.l0])
    | succ k1 =>
      have H := HA.out
      clear HA
      simp only [text_in.l0] at H
      by_cases c3 : x5_1 < x6_1
      · rw [if_pos c3] at H
        have c3b0 : decide (x5_1 < x6_1) = true := decide_eq_true c3
        clear c3
        obtain ⟨ji4, hji4⟩ : ∃ j_ : Int, (wrap64 (Int.tdiv (wrap64 (x5_1 + x6_1)) 2)) = j_ := ⟨_, rfl⟩
        replace H : (if 0 ≤ (ji4) then (if (ji4) < (l0.length : Int) then (if a1 < ((rd_T105 l0 (ji4)).f0) then (text_in.l0 k1 l0 a1 x5_1 ji4) else (if a1 > ((rd_T105 l0 (ji4)).f1) then (text_in.l0 k1 l0 a1 (wrap64 ((ji4) + 1)) x6_1) else (some true))) else (none)) else (none)) = some r := by first | (rw [hji4] at H; exact H) | (simp only [hji4] at H ⊢; exact H)
        have hji4w : (IntKind.i64.wrap (Int.tdiv (wrap64 (x5_1 + x6_1)) 2)) = ji4 := (i64_w _).trans hji4
        by_cases c5 : 0 ≤ (ji4)
        · rw [if_pos c5] at H
          have c5b0 : decide (0 ≤ (ji4)) = true := decide_eq_true c5
          clear c5
          by_cases c6 : (ji4) < (l0.length : Int)
          · rw [if_pos c6] at H
            have c6b0 : decide ((ji4) < (l0.length : Int)) = true := decide_eq_true c6
            clear c6
            by_cases c7 : a1 < ((rd_T105 l0 (ji4)).f0)
            · rw [if_pos c7] at H
              have c7b0 : decide (a1 < ((rd_T105 l0 (ji4)).f0)) = true := decide_eq_true c7
              clear c7
              have H' := Aside0.mk H
              clear H
              have p165 : 0 ≤ ((ji4) : Int) := of_decide_eq_true (by first | (with_reducible assumption) | assumption)
              have q165 : (ji4) < (l0.length : Int) := of_decide_eq_true (by first | (with_reducible assumption) | assumption)
              obtain ⟨ad165, e165, hx165_0, hx165_1⟩ := at_T105 HR0.out (ji4) p165 q165
              cases e165
              replace p165 := eq_true p165
              replace q165 := eq_true q165
              go_wp2
              go_roundg k1
              case measure => have := HK1.out; omega
              case rel => exact ⟨(x5_1), (ji4), (by first | rfl | (simp; done) | (simp [*]; done)), (by first | rfl | (simp; done) | (simp only [← hji4] <;> (first | rfl | simp)) | (simp [*]; done)), H', ⟨by have := HK1.out; omega⟩, by repeat (first | exact Drawn0.refl _ | apply Drawn0.step)⟩
            · rw [if_neg c7] at H
              have c7b0 : decide (a1 < ((rd_T105 l0 (ji4)).f0)) = false := decide_eq_false c7
              clear c7
              by_cases c8 : a1 > ((rd_T105 l0 (ji4)).f1)
              · rw [if_pos c8] at H
                have c8b0 : decide (((rd_T105 l0 (ji4)).f1) < a1) = true := decide_eq_true c8
                clear c8
                have H' := Aside0.mk H
                clear H
                have p165 : 0 ≤ ((ji4) : Int) := of_decide_eq_true (by first | (with_reducible assumption) | assumption)
                have q165 : (ji4) < (l0.length : Int) := of_decide_eq_true (by first | (with_reducible assumption) | assumption)
                obtain ⟨ad165, e165, hx165_0, hx165_1⟩ := at_T105 HR0.out (ji4) p165 q165
                cases e165
                replace p165 := eq_true p165
                replace q165 := eq_true q165
                have p166 : 0 ≤ ((ji4) : Int) := of_decide_eq_true (by first | (with_reducible assumption) | assumption)
                have q166 : (ji4) < (l0.length : Int) := of_decide_eq_true (by first | (with_reducible assumption) | assumption)
                obtain ⟨ad166, e166, hx166_0, hx166_1⟩ := at_T105 HR0.out (ji4) p166 q166
                obtain rfl : ad165 = ad166 := (by injection e166)
                replace p166 := eq_true p166
                replace q166 := eq_true q166
                go_wp2
                go_roundg k1
                case measure => have := HK1.out; omega
                case rel => exact ⟨(wrap64 ((ji4) + 1)), (x6_1), (by first | rfl | (simp; done) | (simp only [← hji4] <;> (first | rfl | simp)) | (simp [*]; done)), (by first | rfl | (simp; done) | (simp [*]; done)), H', ⟨by have := HK1.out; omega⟩, by repeat (first | exact Drawn0.refl _ | apply Drawn0.step)⟩
              · rw [if_neg c8] at H
                have c8b0 : decide (((rd_T105 l0 (ji4)).f1) < a1) = false := decide_eq_false c8
                clear c8
                obtain rfl := Option.some.inj H
                have p165 : 0 ≤ ((ji4) : Int) := of_decide_eq_true (by first | (with_reducible assumption) | assumption)
                have q165 : (ji4) < (l0.length : Int) := of_decide_eq_true (by first | (with_reducible assumption) | assumption)
                obtain ⟨ad165, e165, hx165_0, hx165_1⟩ := at_T105 HR0.out (ji4) p165 q165
                cases e165
                replace p165 := eq_true p165
                replace q165 := eq_true q165
                have p166 : 0 ≤ ((ji4) : Int) := of_decide_eq_true (by first | (with_reducible assumption) | assumption)
                have q166 : (ji4) < (l0.length : Int) := of_decide_eq_true (by first | (with_reducible assumption) | assumption)
                obtain ⟨ad166, e166, hx166_0, hx166_1⟩ := at_T105 HR0.out (ji4) p166 q166
                obtain rfl : ad165 = ad166 := (by injection e166)
                replace p166 := eq_true p166
                replace q166 := eq_true q166
                go_wp2
                go_ret
                exact ⟨by first | rfl | (simp; done) | (simp only [← hji4] <;> (first | rfl | simp)) | (simp [*]; done), by repeat (first | exact Drawn0.refl _ | apply Drawn0.step)⟩
          · rw [if_neg c6] at H
            exact absurd H (by simp)
        · rw [if_neg c5] at H
          exact absurd H (by simp)
      · rw [if_neg c3] at H
        have c3b0 : decide (x5_1 < x6_1) = false := decide_eq_false c3
        clear c3
        obtain rfl := Option.some.inj H
        go_wp2
        go_ret
        exact ⟨by first | rfl | (simp; done) | (simp [*]; done), by repeat (first | exact Drawn0.refl _ | apply Drawn0.step)⟩

/-! ### text_hidden: function 47 -/
def text_hidden.f  : Option ((List (S105))) := some (([(⟨0, 31⟩ : S105), (⟨127, 160⟩ : S105), (⟨173, 173⟩ : S105), (⟨1564, 1564⟩ : S105), (⟨5760, 5760⟩ : S105), (⟨6158, 6158⟩ : S105), (⟨8192, 8207⟩ : S105), (⟨8232, 8239⟩ : S105), (⟨8287, 8303⟩ : S105), (⟨12288, 12288⟩ : S105), (⟨55296, 57343⟩ : S105), (⟨57344, 63743⟩ : S105), (⟨64976, 65007⟩ : S105), (⟨65279, 65279⟩ : S105), (⟨65529, 65531⟩ : S105), (⟨917504, 1114111⟩ : S105)] : List (S105)))
set_option maxHeartbeats 8000000 in
set_option maxRecDepth 100000 in
theorem text_hidden.calls  (r : List (S105)) (w : World) (h : text_hidden.f  = some r) :
    Calls Try.prog 47 #[] w fun e w' => ∃ v0_ : Value, e = .returned (v0_) ∧ Kd.R k105 105 w' w.heap.size (fun _ => True) v0_ r ∧ Below w.heap.size w w' := by
  have hu105 := Try.underlying105
  have HB := Aside0.mk (Below.refl w.heap.size w)
  have H : (some (([(⟨0, 31⟩ : S105), (⟨127, 160⟩ : S105), (⟨173, 173⟩ : S105), (⟨1564, 1564⟩ : S105), (⟨5760, 5760⟩ : S105), (⟨6158, 6158⟩ : S105), (⟨8192, 8207⟩ : S105), (⟨8232, 8239⟩ : S105), (⟨8287, 8303⟩ : S105), (⟨12288, 12288⟩ : S105), (⟨55296, 57343⟩ : S105), (⟨57344, 63743⟩ : S105), (⟨64976, 65007⟩ : S105), (⟨65279, 65279⟩ : S105), (⟨65529, 65531⟩ : S105), (⟨917504, 1114111⟩ : S105)] : List (S105)))) = some r := h
  clear h
  obtain ⟨y167, hy167⟩ : ∃ y_ : List (S105), y_ = (([(⟨0, 31⟩ : S105), (⟨127, 160⟩ : S105), (⟨173, 173⟩ : S105), (⟨1564, 1564⟩ : S105), (⟨5760, 5760⟩ : S105), (⟨6158, 6158⟩ : S105), (⟨8192, 8207⟩ : S105), (⟨8232, 8239⟩ : S105), (⟨8287, 8303⟩ : S105), (⟨12288, 12288⟩ : S105), (⟨55296, 57343⟩ : S105), (⟨57344, 63743⟩ : S105), (⟨64976, 65007⟩ : S105), (⟨65279, 65279⟩ : S105), (⟨65529, 65531⟩ : S105), (⟨917504, 1114111⟩ : S105)] : List (S105))) := ⟨_, rfl⟩
  replace H : (some y167) = some r := by first | (rw [hy167]; with_reducible exact H) | (have H2_ := (Option.bind_some _ _).symm.trans H; rw [hy167]; with_reducible exact H2_) | (have H2_ := (Option.bind_some _ _).symm.trans H; with_reducible exact H2_) | with_reducible exact H | (rw [hy167]; exact H) | exact H
  have Ny167 := Aside0.mk hy167
  clear hy167
  obtain rfl := Option.some.inj H
  go_enter Try.func47, Try.ntmps47
  go_wp2_with (first | ((with_reducible refine gate_dst (N := 17) rfl ?_); refine Kd.R_lit k105 _ 105 ?hg (N := 17) ?hd (xs := ([(⟨0, 31⟩ : S105), (⟨127, 160⟩ : S105), (⟨173, 173⟩ : S105), (⟨1564, 1564⟩ : S105), (⟨5760, 5760⟩ : S105), (⟨6158, 6158⟩ : S105), (⟨8192, 8207⟩ : S105), (⟨8232, 8239⟩ : S105), (⟨8287, 8303⟩ : S105), (⟨12288, 12288⟩ : S105), (⟨55296, 57343⟩ : S105), (⟨57344, 63743⟩ : S105), (⟨64976, 65007⟩ : S105), (⟨65279, 65279⟩ : S105), (⟨65529, 65531⟩ : S105), (⟨917504, 1114111⟩ : S105)] : List (S105))) (inner := [.int .i32 0, .int .i32 31, .int .i32 127, .int .i32 160, .int .i32 173, .int .i32 173, .int .i32 1564, .int .i32 1564, .int .i32 5760, .int .i32 5760, .int .i32 6158, .int .i32 6158, .int .i32 8192, .int .i32 8207, .int .i32 8232, .int .i32 8239, .int .i32 8287, .int .i32 8303, .int .i32 12288, .int .i32 12288, .int .i32 55296, .int .i32 57343, .int .i32 57344, .int .i32 63743, .int .i32 64976, .int .i32 65007, .int .i32 65279, .int .i32 65279, .int .i32 65529, .int .i32 65531, .int .i32 917504, .int .i32 1114111]) (ok := fun _ => True) (okp := fun _ => True) ?hr ?hp (fun _ hk => hk) trivial (Below.refl _ _) (Nat.le_refl _) (by simp) ?_; (case hd => rfl); (case hg => rfl); (case hr => first | (go_simp; done) | (go_simp; rfl)); (case hp => exact (Reps.c2 (show Kd.M k105 _ _ _ (⟨0, 31⟩ : S105) [.int .i32 0, .int .i32 31] from (k105_mkM _ _ _ (⟨0, 31⟩ : S105) )) (Reps.c2 (show Kd.M k105 _ _ _ (⟨127, 160⟩ : S105) [.int .i32 127, .int .i32 160] from (k105_mkM _ _ _ (⟨127, 160⟩ : S105) )) (Reps.c2 (show Kd.M k105 _ _ _ (⟨173, 173⟩ : S105) [.int .i32 173, .int .i32 173] from (k105_mkM _ _ _ (⟨173, 173⟩ : S105) )) (Reps.c2 (show Kd.M k105 _ _ _ (⟨1564, 1564⟩ : S105) [.int .i32 1564, .int .i32 1564] from (k105_mkM _ _ _ (⟨1564, 1564⟩ : S105) )) (Reps.c2 (show Kd.M k105 _ _ _ (⟨5760, 5760⟩ : S105) [.int .i32 5760, .int .i32 5760] from (k105_mkM _ _ _ (⟨5760, 5760⟩ : S105) )) (Reps.c2 (show Kd.M k105 _ _ _ (⟨6158, 6158⟩ : S105) [.int .i32 6158, .int .i32 6158] from (k105_mkM _ _ _ (⟨6158, 6158⟩ : S105) )) (Reps.c2 (show Kd.M k105 _ _ _ (⟨8192, 8207⟩ : S105) [.int .i32 8192, .int .i32 8207] from (k105_mkM _ _ _ (⟨8192, 8207⟩ : S105) )) (Reps.c2 (show Kd.M k105 _ _ _ (⟨8232, 8239⟩ : S105) [.int .i32 8232, .int .i32 8239] from (k105_mkM _ _ _ (⟨8232, 8239⟩ : S105) )) (Reps.c2 (show Kd.M k105 _ _ _ (⟨8287, 8303⟩ : S105) [.int .i32 8287, .int .i32 8303] from (k105_mkM _ _ _ (⟨8287, 8303⟩ : S105) )) (Reps.c2 (show Kd.M k105 _ _ _ (⟨12288, 12288⟩ : S105) [.int .i32 12288, .int .i32 12288] from (k105_mkM _ _ _ (⟨12288, 12288⟩ : S105) )) (Reps.c2 (show Kd.M k105 _ _ _ (⟨55296, 57343⟩ : S105) [.int .i32 55296, .int .i32 57343] from (k105_mkM _ _ _ (⟨55296, 57343⟩ : S105) )) (Reps.c2 (show Kd.M k105 _ _ _ (⟨57344, 63743⟩ : S105) [.int .i32 57344, .int .i32 63743] from (k105_mkM _ _ _ (⟨57344, 63743⟩ : S105) )) (Reps.c2 (show Kd.M k105 _ _ _ (⟨64976, 65007⟩ : S105) [.int .i32 64976, .int .i32 65007] from (k105_mkM _ _ _ (⟨64976, 65007⟩ : S105) )) (Reps.c2 (show Kd.M k105 _ _ _ (⟨65279, 65279⟩ : S105) [.int .i32 65279, .int .i32 65279] from (k105_mkM _ _ _ (⟨65279, 65279⟩ : S105) )) (Reps.c2 (show Kd.M k105 _ _ _ (⟨65529, 65531⟩ : S105) [.int .i32 65529, .int .i32 65531] from (k105_mkM _ _ _ (⟨65529, 65531⟩ : S105) )) (Reps.c2 (show Kd.M k105 _ _ _ (⟨917504, 1114111⟩ : S105) [.int .i32 917504, .int .i32 1114111] from (k105_mkM _ _ _ (⟨917504, 1114111⟩ : S105) )) (Reps.none _ _)))))))))))))))))); intro v168 w1 ho2 hb hg_ hnew_; clear hg_ hnew_; (first | rw [← Ny167.out] at ho2 | (simp only [Int.reduceToNat] at ho2; rw [← Ny167.out] at ho2)); have n0_ := Aside0.mk (Kd.R_lower ho2 (below_size (by repeat (first | (with_reducible first | exact HB.out | apply below_alloc | apply pw_below_drewN | apply below_drew1) | exact HB.out)))); have n1_ := Aside0.mk (below_step (by repeat (first | (with_reducible first | exact HB.out | apply below_alloc | apply pw_below_drewN | apply below_drew1) | exact HB.out)) hb); clear HB; have HO169 := n0_; have HB := n1_; clear n0_ n1_; clear hb ho2))
  go_ret
  exact ⟨_, by first | rfl | (simp [errW_none, errW_some] <;> rfl) | (simp [*, errW_none, errW_some] <;> rfl), by (with_reducible repeat (first | apply Kd.R_alloc | apply Kd.R_drewN | apply Kd.R_drew)); exact HO169.out, by repeat (first | (with_reducible first | exact HB.out | apply below_alloc | apply pw_below_drewN | apply below_drew1) | exact HB.out)⟩

/-! ### text_isHidden: function 30 -/
def text_isHidden.j0 : Nat → Int → Bool → Option (Bool)
  | 0, _, _ => none
  | k + 1, x0, x13 => if x13 = true then (some true) else ((text_hidden.f).bind fun t170 => ((text_in.f k t170 x0).bind fun t173 => (some t173)))
def text_isHidden.f (k : Nat) (a0 : Int) : Option (Bool) := if a0 < 0 then (text_isHidden.j0 k a0 true) else (if a0 > 1114111 then (text_isHidden.j0 k a0 true) else (text_isHidden.j0 k a0 ((Go.bits .and .i32 a0 65534) == 65534)))
theorem text_isHidden.mono_l : ∀ k, (∀ y0 y1, LeO (text_isHidden.j0 k y0 y1) (text_isHidden.j0 (k + 1) y0 y1))
  | 0 => fun _ _ r h => by simp [text_isHidden.j0] at h
  | k + 1 => by
    have ih0 := text_isHidden.mono_l k
    · intro y0 y1
      unfold text_isHidden.j0
      repeat' first
      | (with_reducible exact ih0 _ _)
      | (with_reducible exact text_in.mono _ _ _)
      | (with_reducible exact LeO.refl _)
      | (with_reducible exact LeO.none _)
      | (with_reducible refine LeO.ite ?_ ?_)
      | (with_reducible refine LeO.bind ?_ (fun _ => ?_))
      | exact ih0 _ _
      | exact text_in.mono _ _ _
      | exact LeO.none _
      | refine LeO.ite ?_ ?_
      | refine LeO.bind ?_ (fun _ => ?_)
theorem text_isHidden.mono : ∀ a0 k, LeO (text_isHidden.f k a0) (text_isHidden.f (k + 1) a0) := by
  intro a0 k
  have ih0 := text_isHidden.mono_l k
  unfold text_isHidden.f
  repeat' first
      | (with_reducible exact ih0 _ _)
      | (with_reducible exact text_in.mono _ _ _)
      | (with_reducible exact LeO.refl _)
      | (with_reducible exact LeO.none _)
      | (with_reducible refine LeO.ite ?_ ?_)
      | (with_reducible refine LeO.bind ?_ (fun _ => ?_))
      | exact ih0 _ _
      | exact text_in.mono _ _ _
      | exact LeO.none _
      | refine LeO.ite ?_ ?_
      | refine LeO.bind ?_ (fun _ => ?_)
set_option maxHeartbeats 8000000 in
set_option maxRecDepth 100000 in
theorem text_isHidden.calls (k : Nat) (a0 : Int) (r : Bool) (w : World) (h : text_isHidden.f k a0 = some r) :
    Calls Try.prog 30 #[.int .i32 a0] w fun e w' => e = .returned (.bool r) ∧ Below w.heap.size w w' := by
  have HB := Aside0.mk (Below.refl w.heap.size w)
  have H : (if a0 < 0 then (text_isHidden.j0 k a0 true) else (if a0 > 1114111 then (text_isHidden.j0 k a0 true) else (text_isHidden.j0 k a0 ((Go.bits .and .i32 a0 65534) == 65534)))) = some r := h
  clear h
  have HC2 := Aside0.mk H
  clear H
  go_enter Try.func30, Try.ntmps30
  go_upto_region 1 with (fail)
  go_cut [13] (fun v13 wc => ∃ (kq : Nat) (x13_1 : Bool), v13 = .bool x13_1 ∧ Aside0 (text_isHidden.j0 kq a0 x13_1 = some r) ∧ Aside0 (kq ≤ k) ∧ Aside0 (Below w.heap.size w wc))
  case first =>
    have H := HC2.out
    clear HC2
    by_cases c3 : a0 < 0
    · rw [if_pos c3] at H
      have c3b0 : decide (a0 < 0) = true := decide_eq_true c3
      clear c3
      (first | rw [c3b0] | (simp only [i64_w, i32_w]; rw [c3b0]) | skip)
      have H' := Aside0.mk H
      clear H
      go_wp2
      go_meet
      case rel => exact ⟨_, (true), (by first | rfl | (simp; done) | (simp [*]; done)), H', ⟨by first | omega | exact Nat.le_refl _⟩, ⟨by repeat (first | (with_reducible first | exact HB.out | apply below_alloc | apply pw_below_drewN | apply below_drew1) | exact HB.out)⟩⟩
    · rw [if_neg c3] at H
      have c3b0 : decide (a0 < 0) = false := decide_eq_false c3
      clear c3
      (first | rw [c3b0] | (simp only [i64_w, i32_w]; rw [c3b0]) | skip)
      by_cases c4 : a0 > 1114111
      · rw [if_pos c4] at H
        have c4b0 : decide (1114111 < a0) = true := decide_eq_true c4
        clear c4
        have H' := Aside0.mk H
        clear H
        go_wp2
        go_meet
        case rel => exact ⟨_, (true), (by first | rfl | (simp; done) | (simp [*]; done)), H', ⟨by first | omega | exact Nat.le_refl _⟩, ⟨by repeat (first | (with_reducible first | exact HB.out | apply below_alloc | apply pw_below_drewN | apply below_drew1) | exact HB.out)⟩⟩
      · rw [if_neg c4] at H
        have c4b0 : decide (1114111 < a0) = false := decide_eq_false c4
        clear c4
        have H' := Aside0.mk H
        clear H
        go_wp2
        go_meet
        case rel => exact ⟨_, (((Go.bits .and .i32 a0 65534) == 65534)), (by first | rfl | (simp; done) | (simp [*]; done)), H', ⟨by first | omega | exact Nat.le_refl _⟩, ⟨by repeat (first | (with_reducible first | exact HB.out | apply below_alloc | apply pw_below_drewN | apply below_drew1) | exact HB.out)⟩⟩
  case rest =>
    clear HC2
    try clear p2
    try clear c3
    try clear c3b0
    try clear c4
    try clear c4b0
    obtain ⟨kq, x13_1, rfl, HA, HJ1, HB⟩ := hcut
    cases kq with
    | zero => exact absurd HA.out (by simp [text_isHidden.j0])
    | succ kj1 =>
      have H := HA.out
      clear HA
      simp only [text_isHidden.j0] at H
      by_cases c5 : x13_1 = true
      · subst c5
        have H1 : (some true) = some r := by rw [if_pos rfl] at H; exact H
        clear H
        have H := H1
        clear H1
        obtain rfl := Option.some.inj H
        go_wp2
        go_ret
        exact ⟨by first | rfl | (simp [errW_none, errW_some] <;> rfl) | (simp [*, errW_none, errW_some] <;> rfl), by repeat (first | (with_reducible first | exact HB.out | apply below_alloc | apply pw_below_drewN | apply below_drew1) | exact HB.out)⟩
      · replace c5 := Bool.eq_false_iff.mpr c5
        subst c5
        have H1 : ((text_hidden.f).bind fun t170 => ((text_in.f kj1 t170 a0).bind fun t173 => (some t173))) = some r := by rw [if_neg (show ¬ (false = true) by decide)] at H; exact H
        clear H
        have H := H1
        clear H1
        replace H := Option.bind_eq_some_iff.mp H
        obtain ⟨t170, A60, H⟩ := H
        replace H : ((text_in.f kj1 t170 a0).bind fun t173 => (some t173)) = some r := H
        have A6 := Aside0.mk A60
        clear A60
        replace H := Option.bind_eq_some_iff.mp H
        obtain ⟨t173, A70, H⟩ := H
        replace H : (some t173) = some r := H
        have A7 := Aside0.mk A70
        clear A70
        obtain rfl := Option.some.inj H
        go_wp2_with (first | ((with_reducible refine gate_callee (f := 47) rfl ?_); refine goesL_ (some 14) rfl rfl Try.func47 (by kernel_rfl) rfl #[] rfl (by (try simp only [List.map_toArray, List.map_cons, List.map_nil]); first | done | rfl | (simp only [List.length_drop, List.length_take]; rfl)) ?_; (with_reducible refine (text_hidden.calls  t170 _ A6.out).mono ?_); rintro e w8 ⟨v171, rfl, ho0, hb⟩; refine ⟨_, rfl, ?_⟩; have n0_ := Aside0.mk (Kd.R_lower ho0 (below_size (by repeat (first | (with_reducible first | exact HB.out | apply below_alloc | apply pw_below_drewN | apply below_drew1) | exact HB.out)))); have n1_ := Aside0.mk (below_step (by repeat (first | (with_reducible first | exact HB.out | apply below_alloc | apply pw_below_drewN | apply below_drew1) | exact HB.out)) hb); clear HB; have HO172 := n0_; have HB := n1_; clear n0_ n1_; (try clear hb); (try clear hb2); (try clear hk); (try clear hi); (try clear ho0); obtain ⟨Ao9, co9, eo9⟩ := Kd.R_slice HO172.out; subst eo9) | ((with_reducible refine gate_callee (f := 46) rfl ?_); refine goesL_ (some 16) rfl rfl Try.func46 (by kernel_rfl) rfl #[.slice Ao9 t170.length co9, .int .i32 a0] rfl (by (try simp only [List.map_toArray, List.map_cons, List.map_nil]); first | done | rfl | (simp only [List.length_drop, List.length_take]; rfl)) ?_; (with_reducible refine (text_in.calls kj1 _ _ t170 a0 t173 _ ?side1 ?side2 A7.out).mono ?_); (case side1 => repeat (first | exact (Kd.R_reads' HO172.out).2.2 | (with_reducible refine Kd.C_alloc ?_ _) | (with_reducible refine Kd.C_drewN ?_ _) | (with_reducible refine Kd.C_drew ?_))); (case side2 => exact (Kd.R_reads' HO172.out).2.1); rintro e w' ⟨rfl, ⟨nd, rfl⟩⟩; refine ⟨_, rfl, ?_⟩))
        go_ret
        exact ⟨by first | rfl | (simp [errW_none, errW_some] <;> rfl) | (simp [*, errW_none, errW_some] <;> rfl), by repeat (first | (with_reducible first | exact HB.out | apply below_alloc | apply pw_below_drewN | apply below_drew1) | exact HB.out)⟩

/-! ### text_marks: function 48 -/
def text_marks.f  : Option ((List (S105))) := some (([(⟨768, 879⟩ : S105), (⟨1155, 1161⟩ : S105), (⟨1425, 1469⟩ : S105), (⟨1611, 1631⟩ : S105), (⟨6832, 6911⟩ : S105), (⟨7616, 7679⟩ : S105), (⟨8400, 8447⟩ : S105), (⟨65024, 65039⟩ : S105), (⟨65056, 65071⟩ : S105)] : List (S105)))
set_option maxHeartbeats 8000000 in
set_option maxRecDepth 100000 in
theorem text_marks.calls  (r : List (S105)) (w : World) (h : text_marks.f  = some r) :
    Calls Try.prog 48 #[] w fun e w' => ∃ v0_ : Value, e = .returned (v0_) ∧ Kd.R k105 105 w' w.heap.size (fun _ => True) v0_ r ∧ Below w.heap.size w w' := by
  have hu105 := Try.underlying105
  have HB := Aside0.mk (Below.refl w.heap.size w)
  have H : (some (([(⟨768, 879⟩ : S105), (⟨1155, 1161⟩ : S105), (⟨1425, 1469⟩ : S105), (⟨1611, 1631⟩ : S105), (⟨6832, 6911⟩ : S105), (⟨7616, 7679⟩ : S105), (⟨8400, 8447⟩ : S105), (⟨65024, 65039⟩ : S105), (⟨65056, 65071⟩ : S105)] : List (S105)))) = some r := h
  clear h
  obtain ⟨y174, hy174⟩ : ∃ y_ : List (S105), y_ = (([(⟨768, 879⟩ : S105), (⟨1155, 1161⟩ : S105), (⟨1425, 1469⟩ : S105), (⟨1611, 1631⟩ : S105), (⟨6832, 6911⟩ : S105), (⟨7616, 7679⟩ : S105), (⟨8400, 8447⟩ : S105), (⟨65024, 65039⟩ : S105), (⟨65056, 65071⟩ : S105)] : List (S105))) := ⟨_, rfl⟩
  replace H : (some y174) = some r := by first | (rw [hy174]; with_reducible exact H) | (have H2_ := (Option.bind_some _ _).symm.trans H; rw [hy174]; with_reducible exact H2_) | (have H2_ := (Option.bind_some _ _).symm.trans H; with_reducible exact H2_) | with_reducible exact H | (rw [hy174]; exact H) | exact H
  have Ny174 := Aside0.mk hy174
  clear hy174
  obtain rfl := Option.some.inj H
  go_enter Try.func48, Try.ntmps48
  go_wp2_with (first | ((with_reducible refine gate_dst (N := 10) rfl ?_); refine Kd.R_lit k105 _ 105 ?hg (N := 10) ?hd (xs := ([(⟨768, 879⟩ : S105), (⟨1155, 1161⟩ : S105), (⟨1425, 1469⟩ : S105), (⟨1611, 1631⟩ : S105), (⟨6832, 6911⟩ : S105), (⟨7616, 7679⟩ : S105), (⟨8400, 8447⟩ : S105), (⟨65024, 65039⟩ : S105), (⟨65056, 65071⟩ : S105)] : List (S105))) (inner := [.int .i32 768, .int .i32 879, .int .i32 1155, .int .i32 1161, .int .i32 1425, .int .i32 1469, .int .i32 1611, .int .i32 1631, .int .i32 6832, .int .i32 6911, .int .i32 7616, .int .i32 7679, .int .i32 8400, .int .i32 8447, .int .i32 65024, .int .i32 65039, .int .i32 65056, .int .i32 65071]) (ok := fun _ => True) (okp := fun _ => True) ?hr ?hp (fun _ hk => hk) trivial (Below.refl _ _) (Nat.le_refl _) (by simp) ?_; (case hd => rfl); (case hg => rfl); (case hr => first | (go_simp; done) | (go_simp; rfl)); (case hp => exact (Reps.c2 (show Kd.M k105 _ _ _ (⟨768, 879⟩ : S105) [.int .i32 768, .int .i32 879] from (k105_mkM _ _ _ (⟨768, 879⟩ : S105) )) (Reps.c2 (show Kd.M k105 _ _ _ (⟨1155, 1161⟩ : S105) [.int .i32 1155, .int .i32 1161] from (k105_mkM _ _ _ (⟨1155, 1161⟩ : S105) )) (Reps.c2 (show Kd.M k105 _ _ _ (⟨1425, 1469⟩ : S105) [.int .i32 1425, .int .i32 1469] from (k105_mkM _ _ _ (⟨1425, 1469⟩ : S105) )) (Reps.c2 (show Kd.M k105 _ _ _ (⟨1611, 1631⟩ : S105) [.int .i32 1611, .int .i32 1631] from (k105_mkM _ _ _ (⟨1611, 1631⟩ : S105) )) (Reps.c2 (show Kd.M k105 _ _ _ (⟨6832, 6911⟩ : S105) [.int .i32 6832, .int .i32 6911] from (k105_mkM _ _ _ (⟨6832, 6911⟩ : S105) )) (Reps.c2 (show Kd.M k105 _ _ _ (⟨7616, 7679⟩ : S105) [.int .i32 7616, .int .i32 7679] from (k105_mkM _ _ _ (⟨7616, 7679⟩ : S105) )) (Reps.c2 (show Kd.M k105 _ _ _ (⟨8400, 8447⟩ : S105) [.int .i32 8400, .int .i32 8447] from (k105_mkM _ _ _ (⟨8400, 8447⟩ : S105) )) (Reps.c2 (show Kd.M k105 _ _ _ (⟨65024, 65039⟩ : S105) [.int .i32 65024, .int .i32 65039] from (k105_mkM _ _ _ (⟨65024, 65039⟩ : S105) )) (Reps.c2 (show Kd.M k105 _ _ _ (⟨65056, 65071⟩ : S105) [.int .i32 65056, .int .i32 65071] from (k105_mkM _ _ _ (⟨65056, 65071⟩ : S105) )) (Reps.none _ _))))))))))); intro v175 w1 ho2 hb hg_ hnew_; clear hg_ hnew_; (first | rw [← Ny174.out] at ho2 | (simp only [Int.reduceToNat] at ho2; rw [← Ny174.out] at ho2)); have n0_ := Aside0.mk (Kd.R_lower ho2 (below_size (by repeat (first | (with_reducible first | exact HB.out | apply below_alloc | apply pw_below_drewN | apply below_drew1) | exact HB.out)))); have n1_ := Aside0.mk (below_step (by repeat (first | (with_reducible first | exact HB.out | apply below_alloc | apply pw_below_drewN | apply below_drew1) | exact HB.out)) hb); clear HB; have HO176 := n0_; have HB := n1_; clear n0_ n1_; clear hb ho2))
  go_ret
  exact ⟨_, by first | rfl | (simp [errW_none, errW_some] <;> rfl) | (simp [*, errW_none, errW_some] <;> rfl), by (with_reducible repeat (first | apply Kd.R_alloc | apply Kd.R_drewN | apply Kd.R_drew)); exact HO176.out, by repeat (first | (with_reducible first | exact HB.out | apply below_alloc | apply pw_below_drewN | apply below_drew1) | exact HB.out)⟩

/-! ### text_wide: function 49 -/
def text_wide.f  : Option ((List (S105))) := some (([(⟨4352, 4447⟩ : S105), (⟨11904, 12350⟩ : S105), (⟨12353, 19903⟩ : S105), (⟨19968, 42191⟩ : S105), (⟨44032, 55203⟩ : S105), (⟨63744, 64255⟩ : S105), (⟨65072, 65135⟩ : S105), (⟨65281, 65376⟩ : S105), (⟨65504, 65510⟩ : S105), (⟨127744, 128591⟩ : S105), (⟨129280, 129535⟩ : S105), (⟨131072, 262141⟩ : S105)] : List (S105)))
set_option maxHeartbeats 8000000 in
set_option maxRecDepth 100000 in
theorem text_wide.calls  (r : List (S105)) (w : World) (h : text_wide.f  = some r) :
    Calls Try.prog 49 #[] w fun e w' => ∃ v0_ : Value, e = .returned (v0_) ∧ Kd.R k105 105 w' w.heap.size (fun _ => True) v0_ r ∧ Below w.heap.size w w' := by
  have hu105 := Try.underlying105
  have HB := Aside0.mk (Below.refl w.heap.size w)
  have H : (some (([(⟨4352, 4447⟩ : S105), (⟨11904, 12350⟩ : S105), (⟨12353, 19903⟩ : S105), (⟨19968, 42191⟩ : S105), (⟨44032, 55203⟩ : S105), (⟨63744, 64255⟩ : S105), (⟨65072, 65135⟩ : S105), (⟨65281, 65376⟩ : S105), (⟨65504, 65510⟩ : S105), (⟨127744, 128591⟩ : S105), (⟨129280, 129535⟩ : S105), (⟨131072, 262141⟩ : S105)] : List (S105)))) = some r := h
  clear h
  obtain ⟨y177, hy177⟩ : ∃ y_ : List (S105), y_ = (([(⟨4352, 4447⟩ : S105), (⟨11904, 12350⟩ : S105), (⟨12353, 19903⟩ : S105), (⟨19968, 42191⟩ : S105), (⟨44032, 55203⟩ : S105), (⟨63744, 64255⟩ : S105), (⟨65072, 65135⟩ : S105), (⟨65281, 65376⟩ : S105), (⟨65504, 65510⟩ : S105), (⟨127744, 128591⟩ : S105), (⟨129280, 129535⟩ : S105), (⟨131072, 262141⟩ : S105)] : List (S105))) := ⟨_, rfl⟩
  replace H : (some y177) = some r := by first | (rw [hy177]; with_reducible exact H) | (have H2_ := (Option.bind_some _ _).symm.trans H; rw [hy177]; with_reducible exact H2_) | (have H2_ := (Option.bind_some _ _).symm.trans H; with_reducible exact H2_) | with_reducible exact H | (rw [hy177]; exact H) | exact H
  have Ny177 := Aside0.mk hy177
  clear hy177
  obtain rfl := Option.some.inj H
  go_enter Try.func49, Try.ntmps49
  go_wp2_with (first | ((with_reducible refine gate_dst (N := 13) rfl ?_); refine Kd.R_lit k105 _ 105 ?hg (N := 13) ?hd (xs := ([(⟨4352, 4447⟩ : S105), (⟨11904, 12350⟩ : S105), (⟨12353, 19903⟩ : S105), (⟨19968, 42191⟩ : S105), (⟨44032, 55203⟩ : S105), (⟨63744, 64255⟩ : S105), (⟨65072, 65135⟩ : S105), (⟨65281, 65376⟩ : S105), (⟨65504, 65510⟩ : S105), (⟨127744, 128591⟩ : S105), (⟨129280, 129535⟩ : S105), (⟨131072, 262141⟩ : S105)] : List (S105))) (inner := [.int .i32 4352, .int .i32 4447, .int .i32 11904, .int .i32 12350, .int .i32 12353, .int .i32 19903, .int .i32 19968, .int .i32 42191, .int .i32 44032, .int .i32 55203, .int .i32 63744, .int .i32 64255, .int .i32 65072, .int .i32 65135, .int .i32 65281, .int .i32 65376, .int .i32 65504, .int .i32 65510, .int .i32 127744, .int .i32 128591, .int .i32 129280, .int .i32 129535, .int .i32 131072, .int .i32 262141]) (ok := fun _ => True) (okp := fun _ => True) ?hr ?hp (fun _ hk => hk) trivial (Below.refl _ _) (Nat.le_refl _) (by simp) ?_; (case hd => rfl); (case hg => rfl); (case hr => first | (go_simp; done) | (go_simp; rfl)); (case hp => exact (Reps.c2 (show Kd.M k105 _ _ _ (⟨4352, 4447⟩ : S105) [.int .i32 4352, .int .i32 4447] from (k105_mkM _ _ _ (⟨4352, 4447⟩ : S105) )) (Reps.c2 (show Kd.M k105 _ _ _ (⟨11904, 12350⟩ : S105) [.int .i32 11904, .int .i32 12350] from (k105_mkM _ _ _ (⟨11904, 12350⟩ : S105) )) (Reps.c2 (show Kd.M k105 _ _ _ (⟨12353, 19903⟩ : S105) [.int .i32 12353, .int .i32 19903] from (k105_mkM _ _ _ (⟨12353, 19903⟩ : S105) )) (Reps.c2 (show Kd.M k105 _ _ _ (⟨19968, 42191⟩ : S105) [.int .i32 19968, .int .i32 42191] from (k105_mkM _ _ _ (⟨19968, 42191⟩ : S105) )) (Reps.c2 (show Kd.M k105 _ _ _ (⟨44032, 55203⟩ : S105) [.int .i32 44032, .int .i32 55203] from (k105_mkM _ _ _ (⟨44032, 55203⟩ : S105) )) (Reps.c2 (show Kd.M k105 _ _ _ (⟨63744, 64255⟩ : S105) [.int .i32 63744, .int .i32 64255] from (k105_mkM _ _ _ (⟨63744, 64255⟩ : S105) )) (Reps.c2 (show Kd.M k105 _ _ _ (⟨65072, 65135⟩ : S105) [.int .i32 65072, .int .i32 65135] from (k105_mkM _ _ _ (⟨65072, 65135⟩ : S105) )) (Reps.c2 (show Kd.M k105 _ _ _ (⟨65281, 65376⟩ : S105) [.int .i32 65281, .int .i32 65376] from (k105_mkM _ _ _ (⟨65281, 65376⟩ : S105) )) (Reps.c2 (show Kd.M k105 _ _ _ (⟨65504, 65510⟩ : S105) [.int .i32 65504, .int .i32 65510] from (k105_mkM _ _ _ (⟨65504, 65510⟩ : S105) )) (Reps.c2 (show Kd.M k105 _ _ _ (⟨127744, 128591⟩ : S105) [.int .i32 127744, .int .i32 128591] from (k105_mkM _ _ _ (⟨127744, 128591⟩ : S105) )) (Reps.c2 (show Kd.M k105 _ _ _ (⟨129280, 129535⟩ : S105) [.int .i32 129280, .int .i32 129535] from (k105_mkM _ _ _ (⟨129280, 129535⟩ : S105) )) (Reps.c2 (show Kd.M k105 _ _ _ (⟨131072, 262141⟩ : S105) [.int .i32 131072, .int .i32 262141] from (k105_mkM _ _ _ (⟨131072, 262141⟩ : S105) )) (Reps.none _ _)))))))))))))); intro v178 w1 ho2 hb hg_ hnew_; clear hg_ hnew_; (first | rw [← Ny177.out] at ho2 | (simp only [Int.reduceToNat] at ho2; rw [← Ny177.out] at ho2)); have n0_ := Aside0.mk (Kd.R_lower ho2 (below_size (by repeat (first | (with_reducible first | exact HB.out | apply below_alloc | apply pw_below_drewN | apply below_drew1) | exact HB.out)))); have n1_ := Aside0.mk (below_step (by repeat (first | (with_reducible first | exact HB.out | apply below_alloc | apply pw_below_drewN | apply below_drew1) | exact HB.out)) hb); clear HB; have HO179 := n0_; have HB := n1_; clear n0_ n1_; clear hb ho2))
  go_ret
  exact ⟨_, by first | rfl | (simp [errW_none, errW_some] <;> rfl) | (simp [*, errW_none, errW_some] <;> rfl), by (with_reducible repeat (first | apply Kd.R_alloc | apply Kd.R_drewN | apply Kd.R_drew)); exact HO179.out, by repeat (first | (with_reducible first | exact HB.out | apply below_alloc | apply pw_below_drewN | apply below_drew1) | exact HB.out)⟩

end Go.Proofs.Ytghhpgpcbnkamaa.P
