-- Written by printx.py (this work's driver over the kit's print) out of the translation; Lean checks it.
import Derived.Test.YtplhcnlpfoiieaaDoorPx0
import Derived.Test.YtplhcnlpfoiieaaDoorPx1
import Derived.Test.YtplhcnlpfoiieaaDoorPx10
import Derived.Test.YtplhcnlpfoiieaaDoorPx12
import Derived.Test.YtplhcnlpfoiieaaDoorPx19
import Derived.Test.YtplhcnlpfoiieaaDoorPx20
namespace Go.Proofs.YtplhcnlpfoiieaaDoor.P
open Go.RowKit Go.Proofs.YtplhcnlpfoiieaaDoorW.PrintWords Go.Proofs.YtplhcnlpfoiieaaDoorW.PrintLast Go.Proofs.YtplhcnlpfoiieaaDoorW.PrintMore
attribute [local go_sem] max2_int min2_int max_two min_two max_three min_three max_four min_four   -- for this text's walks alone
set_option linter.unusedVariables false
set_option linter.unusedSimpArgs false

/-! ### shardlaw1_TextWords: function 7 -/
mutual
def shardlaw1_TextWords.j0 : Nat → ByteArray → List (S75) → List (S45) → Bool → Option (Bool)
  | 0, _, _, _, _ => none
  | k + 1, x0, x3, x6, x52 => if x52 = true then (some false) else (if 6 + x0.size ≤ 9223372036854775807 then ((text_Words.f k ((⟨#[111, 116, 104, 101, 114, 32]⟩ : ByteArray) ++ x0)).bind fun bt286 => ((text_Words.f k x0).bind fun bt291 => ((shardref1_Words.f k ((⟨#[111, 116, 104, 101, 114, 32]⟩ : ByteArray) ++ x0)).bind fun bt296 => ((shardlaw1_sameWords.f k x6 x3).bind fun t301 => (if t301 = true then ((shardlaw1_sameWords.f k bt291.1 x3).bind fun t302 => (if t302 = true then ((shardlaw1_sameWords.f k bt286.1 bt296.1).bind fun t303 => (shardlaw1_TextWords.j1 k x0 x3 x6 t303 bt286.1 bt291.1 bt296.1)) else (shardlaw1_TextWords.j1 k x0 x3 x6 false bt286.1 bt291.1 bt296.1))) else (shardlaw1_TextWords.j1 k x0 x3 x6 false bt286.1 bt291.1 bt296.1)))))) else (none))
def shardlaw1_TextWords.j1 : Nat → ByteArray → List (S75) → List (S45) → Bool → List (S45) → List (S45) → List (S75) → Option (Bool)
  | 0, _, _, _, _, _, _, _ => none
  | k + 1, x0, x3, x6, x9, x10, x13, x16 => if x9 = true then (shardlaw1_TextWords.l0 k x0 x3 x6 x10 x13 x16 0) else (some false)
def shardlaw1_TextWords.l0 : Nat → ByteArray → List (S75) → List (S45) → List (S45) → List (S45) → List (S75) → Int → Option (Bool)
  | 0, _, _, _, _, _, _, _ => none
  | k + 1, x0, x3, x6, x10, x13, x16, x19 => if x19 < (x6.length : Int) then (if 0 ≤ x19 then (shardlaw1_TextWords.l0 k x0 x3 (x6.set (x19 : Int).toNat (⟨(⟨#[115, 112, 111, 105, 108, 116]⟩ : ByteArray), false, (-7)⟩ : S45)) x10 x13 x16 (wrap64 (x19 + 1))) else (none)) else (shardlaw1_TextWords.l1 k x0 x3 x6 x10 x13 x16 0)
def shardlaw1_TextWords.l1 : Nat → ByteArray → List (S75) → List (S45) → List (S45) → List (S45) → List (S75) → Int → Option (Bool)
  | 0, _, _, _, _, _, _, _ => none
  | k + 1, x0, x3, x6, x10, x13, x16, x20 => if x20 < 40 then (if x6.length < 4398046511104 then (shardlaw1_TextWords.l1 k x0 x3 (x6 ++ [(⟨(⟨#[109, 111, 114, 101]⟩ : ByteArray), false, 0⟩ : S45)]) x10 x13 x16 (wrap64 (x20 + 1))) else (none)) else ((shardlaw1_sameWords.f k x13 x3).bind fun t308 => (if t308 = true then ((shardlaw1_sameWords.f k x10 x16).bind fun t309 => (shardlaw1_TextWords.j4 k x0 x3 x6 t309 x10 x13 x16)) else (shardlaw1_TextWords.j4 k x0 x3 x6 false x10 x13 x16)))
def shardlaw1_TextWords.j4 : Nat → ByteArray → List (S75) → List (S45) → Bool → List (S45) → List (S45) → List (S75) → Option (Bool)
  | 0, _, _, _, _, _, _, _ => none
  | k + 1, x0, x3, x6, x9, x10, x13, x16 => shardlaw1_TextWords.l2 k x0 x3 x6 x9 x10 x13 x16 0
def shardlaw1_TextWords.l2 : Nat → ByteArray → List (S75) → List (S45) → Bool → List (S45) → List (S45) → List (S75) → Int → Option (Bool)
  | 0, _, _, _, _, _, _, _, _ => none
  | k + 1, x0, x3, x6, x9, x10, x13, x16, x21 => if x21 < (x13.length : Int) then (if 0 ≤ x21 then (shardlaw1_TextWords.l2 k x0 x3 x6 x9 x10 (x13.set (x21 : Int).toNat (⟨(⟨#[115, 112, 111, 105, 108, 116, 32, 116, 111, 111]⟩ : ByteArray), false, 0⟩ : S45)) x16 (wrap64 (x21 + 1))) else (none)) else ((text_Words.f k x0).bind fun bt311 => (if x9 = true then ((shardlaw1_sameWords.f k bt311.1 x3).bind fun t316 => (if t316 = true then ((shardlaw1_sameWords.f k x10 x16).bind fun t317 => (if t317 = true then (some ((x6.length : Int) == (wrap64 ((x3.length : Int) + 40)))) else (some false))) else (some false))) else (some false)))
end
def shardlaw1_TextWords.f (k : Nat) (a0 : ByteArray) : Option (Bool) := (shardref1_Words.f k a0).bind fun bt274 => ((text_Words.f k a0).bind fun bt279 => ((shardlaw1_sameWords.f k bt279.1 bt274.1).bind fun t284 => (if t284 = true then (if bt279.2.1 = bt274.2.1 then ((shardlaw1_num.f bt279.2.2).bind fun t285 => (shardlaw1_TextWords.j0 k a0 bt274.1 bt279.1 (t285 != bt274.2.2))) else (shardlaw1_TextWords.j0 k a0 bt274.1 bt279.1 true)) else (shardlaw1_TextWords.j0 k a0 bt274.1 bt279.1 true))))
theorem shardlaw1_TextWords.mono_l : ∀ k, (∀ y0 y1 y2 y3, LeO (shardlaw1_TextWords.j0 k y0 y1 y2 y3) (shardlaw1_TextWords.j0 (k + 1) y0 y1 y2 y3)) ∧ (∀ y0 y1 y2 y3 y4 y5 y6, LeO (shardlaw1_TextWords.j1 k y0 y1 y2 y3 y4 y5 y6) (shardlaw1_TextWords.j1 (k + 1) y0 y1 y2 y3 y4 y5 y6)) ∧ (∀ y0 y1 y2 y3 y4 y5 y6, LeO (shardlaw1_TextWords.l0 k y0 y1 y2 y3 y4 y5 y6) (shardlaw1_TextWords.l0 (k + 1) y0 y1 y2 y3 y4 y5 y6)) ∧ (∀ y0 y1 y2 y3 y4 y5 y6, LeO (shardlaw1_TextWords.l1 k y0 y1 y2 y3 y4 y5 y6) (shardlaw1_TextWords.l1 (k + 1) y0 y1 y2 y3 y4 y5 y6)) ∧ (∀ y0 y1 y2 y3 y4 y5 y6, LeO (shardlaw1_TextWords.j4 k y0 y1 y2 y3 y4 y5 y6) (shardlaw1_TextWords.j4 (k + 1) y0 y1 y2 y3 y4 y5 y6)) ∧ (∀ y0 y1 y2 y3 y4 y5 y6 y7, LeO (shardlaw1_TextWords.l2 k y0 y1 y2 y3 y4 y5 y6 y7) (shardlaw1_TextWords.l2 (k + 1) y0 y1 y2 y3 y4 y5 y6 y7))
  | 0 => ⟨fun _ _ _ _ r h => by simp [shardlaw1_TextWords.j0] at h, fun _ _ _ _ _ _ _ r h => by simp [shardlaw1_TextWords.j1] at h, fun _ _ _ _ _ _ _ r h => by simp [shardlaw1_TextWords.l0] at h, fun _ _ _ _ _ _ _ r h => by simp [shardlaw1_TextWords.l1] at h, fun _ _ _ _ _ _ _ r h => by simp [shardlaw1_TextWords.j4] at h, fun _ _ _ _ _ _ _ _ r h => by simp [shardlaw1_TextWords.l2] at h⟩
  | k + 1 => by
    obtain ⟨ih0, ih1, ih2, ih3, ih4, ih5⟩ := shardlaw1_TextWords.mono_l k
    refine ⟨?_, ?_, ?_, ?_, ?_, ?_⟩
    · intro y0 y1 y2 y3
      unfold shardlaw1_TextWords.j0
      repeat' first
      | (with_reducible exact ih0 _ _ _ _)
      | (with_reducible exact ih1 _ _ _ _ _ _ _)
      | (with_reducible exact ih2 _ _ _ _ _ _ _)
      | (with_reducible exact ih3 _ _ _ _ _ _ _)
      | (with_reducible exact ih4 _ _ _ _ _ _ _)
      | (with_reducible exact ih5 _ _ _ _ _ _ _ _)
      | (with_reducible exact shardlaw1_sameWords.mono _ _ _)
      | (with_reducible exact shardref1_Words.mono _ _)
      | (with_reducible exact text_Words.mono _ _)
      | (with_reducible exact LeO.refl _)
      | (with_reducible exact LeO.none _)
      | (with_reducible refine LeO.ite ?_ ?_)
      | (with_reducible refine LeO.bind ?_ (fun _ => ?_))
      | exact ih0 _ _ _ _
      | exact ih1 _ _ _ _ _ _ _
      | exact ih2 _ _ _ _ _ _ _
      | exact ih3 _ _ _ _ _ _ _
      | exact ih4 _ _ _ _ _ _ _
      | exact ih5 _ _ _ _ _ _ _ _
      | exact shardlaw1_sameWords.mono _ _ _
      | exact shardref1_Words.mono _ _
      | exact text_Words.mono _ _
      | exact LeO.none _
      | refine LeO.ite ?_ ?_
      | refine LeO.bind ?_ (fun _ => ?_)
    · intro y0 y1 y2 y3 y4 y5 y6
      unfold shardlaw1_TextWords.j1
      repeat' first
      | (with_reducible exact ih0 _ _ _ _)
      | (with_reducible exact ih1 _ _ _ _ _ _ _)
      | (with_reducible exact ih2 _ _ _ _ _ _ _)
      | (with_reducible exact ih3 _ _ _ _ _ _ _)
      | (with_reducible exact ih4 _ _ _ _ _ _ _)
      | (with_reducible exact ih5 _ _ _ _ _ _ _ _)
      | (with_reducible exact shardlaw1_sameWords.mono _ _ _)
      | (with_reducible exact shardref1_Words.mono _ _)
      | (with_reducible exact text_Words.mono _ _)
      | (with_reducible exact LeO.refl _)
      | (with_reducible exact LeO.none _)
      | (with_reducible refine LeO.ite ?_ ?_)
      | (with_reducible refine LeO.bind ?_ (fun _ => ?_))
      | exact ih0 _ _ _ _
      | exact ih1 _ _ _ _ _ _ _
      | exact ih2 _ _ _ _ _ _ _
      | exact ih3 _ _ _ _ _ _ _
      | exact ih4 _ _ _ _ _ _ _
      | exact ih5 _ _ _ _ _ _ _ _
      | exact shardlaw1_sameWords.mono _ _ _
      | exact shardref1_Words.mono _ _
      | exact text_Words.mono _ _
      | exact LeO.none _
      | refine LeO.ite ?_ ?_
      | refine LeO.bind ?_ (fun _ => ?_)
    · intro y0 y1 y2 y3 y4 y5 y6
      unfold shardlaw1_TextWords.l0
      repeat' first
      | (with_reducible exact ih0 _ _ _ _)
      | (with_reducible exact ih1 _ _ _ _ _ _ _)
      | (with_reducible exact ih2 _ _ _ _ _ _ _)
      | (with_reducible exact ih3 _ _ _ _ _ _ _)
      | (with_reducible exact ih4 _ _ _ _ _ _ _)
      | (with_reducible exact ih5 _ _ _ _ _ _ _ _)
      | (with_reducible exact shardlaw1_sameWords.mono _ _ _)
      | (with_reducible exact shardref1_Words.mono _ _)
      | (with_reducible exact text_Words.mono _ _)
      | (with_reducible exact LeO.refl _)
      | (with_reducible exact LeO.none _)
      | (with_reducible refine LeO.ite ?_ ?_)
      | (with_reducible refine LeO.bind ?_ (fun _ => ?_))
      | exact ih0 _ _ _ _
      | exact ih1 _ _ _ _ _ _ _
      | exact ih2 _ _ _ _ _ _ _
      | exact ih3 _ _ _ _ _ _ _
      | exact ih4 _ _ _ _ _ _ _
      | exact ih5 _ _ _ _ _ _ _ _
      | exact shardlaw1_sameWords.mono _ _ _
      | exact shardref1_Words.mono _ _
      | exact text_Words.mono _ _
      | exact LeO.none _
      | refine LeO.ite ?_ ?_
      | refine LeO.bind ?_ (fun _ => ?_)
    · intro y0 y1 y2 y3 y4 y5 y6
      unfold shardlaw1_TextWords.l1
      repeat' first
      | (with_reducible exact ih0 _ _ _ _)
      | (with_reducible exact ih1 _ _ _ _ _ _ _)
      | (with_reducible exact ih2 _ _ _ _ _ _ _)
      | (with_reducible exact ih3 _ _ _ _ _ _ _)
      | (with_reducible exact ih4 _ _ _ _ _ _ _)
      | (with_reducible exact ih5 _ _ _ _ _ _ _ _)
      | (with_reducible exact shardlaw1_sameWords.mono _ _ _)
      | (with_reducible exact shardref1_Words.mono _ _)
      | (with_reducible exact text_Words.mono _ _)
      | (with_reducible exact LeO.refl _)
      | (with_reducible exact LeO.none _)
      | (with_reducible refine LeO.ite ?_ ?_)
      | (with_reducible refine LeO.bind ?_ (fun _ => ?_))
      | exact ih0 _ _ _ _
      | exact ih1 _ _ _ _ _ _ _
      | exact ih2 _ _ _ _ _ _ _
      | exact ih3 _ _ _ _ _ _ _
      | exact ih4 _ _ _ _ _ _ _
      | exact ih5 _ _ _ _ _ _ _ _
      | exact shardlaw1_sameWords.mono _ _ _
      | exact shardref1_Words.mono _ _
      | exact text_Words.mono _ _
      | exact LeO.none _
      | refine LeO.ite ?_ ?_
      | refine LeO.bind ?_ (fun _ => ?_)
    · intro y0 y1 y2 y3 y4 y5 y6
      unfold shardlaw1_TextWords.j4
      repeat' first
      | (with_reducible exact ih0 _ _ _ _)
      | (with_reducible exact ih1 _ _ _ _ _ _ _)
      | (with_reducible exact ih2 _ _ _ _ _ _ _)
      | (with_reducible exact ih3 _ _ _ _ _ _ _)
      | (with_reducible exact ih4 _ _ _ _ _ _ _)
      | (with_reducible exact ih5 _ _ _ _ _ _ _ _)
      | (with_reducible exact shardlaw1_sameWords.mono _ _ _)
      | (with_reducible exact shardref1_Words.mono _ _)
      | (with_reducible exact text_Words.mono _ _)
      | (with_reducible exact LeO.refl _)
      | (with_reducible exact LeO.none _)
      | (with_reducible refine LeO.ite ?_ ?_)
      | (with_reducible refine LeO.bind ?_ (fun _ => ?_))
      | exact ih0 _ _ _ _
      | exact ih1 _ _ _ _ _ _ _
      | exact ih2 _ _ _ _ _ _ _
      | exact ih3 _ _ _ _ _ _ _
      | exact ih4 _ _ _ _ _ _ _
      | exact ih5 _ _ _ _ _ _ _ _
      | exact shardlaw1_sameWords.mono _ _ _
      | exact shardref1_Words.mono _ _
      | exact text_Words.mono _ _
      | exact LeO.none _
      | refine LeO.ite ?_ ?_
      | refine LeO.bind ?_ (fun _ => ?_)
    · intro y0 y1 y2 y3 y4 y5 y6 y7
      unfold shardlaw1_TextWords.l2
      repeat' first
      | (with_reducible exact ih0 _ _ _ _)
      | (with_reducible exact ih1 _ _ _ _ _ _ _)
      | (with_reducible exact ih2 _ _ _ _ _ _ _)
      | (with_reducible exact ih3 _ _ _ _ _ _ _)
      | (with_reducible exact ih4 _ _ _ _ _ _ _)
      | (with_reducible exact ih5 _ _ _ _ _ _ _ _)
      | (with_reducible exact shardlaw1_sameWords.mono _ _ _)
      | (with_reducible exact shardref1_Words.mono _ _)
      | (with_reducible exact text_Words.mono _ _)
      | (with_reducible exact LeO.refl _)
      | (with_reducible exact LeO.none _)
      | (with_reducible refine LeO.ite ?_ ?_)
      | (with_reducible refine LeO.bind ?_ (fun _ => ?_))
      | exact ih0 _ _ _ _
      | exact ih1 _ _ _ _ _ _ _
      | exact ih2 _ _ _ _ _ _ _
      | exact ih3 _ _ _ _ _ _ _
      | exact ih4 _ _ _ _ _ _ _
      | exact ih5 _ _ _ _ _ _ _ _
      | exact shardlaw1_sameWords.mono _ _ _
      | exact shardref1_Words.mono _ _
      | exact text_Words.mono _ _
      | exact LeO.none _
      | refine LeO.ite ?_ ?_
      | refine LeO.bind ?_ (fun _ => ?_)
theorem shardlaw1_TextWords.mono : ∀ a0 k, LeO (shardlaw1_TextWords.f k a0) (shardlaw1_TextWords.f (k + 1) a0) := by
  intro a0 k
  obtain ⟨ih0, ih1, ih2, ih3, ih4, ih5⟩ := shardlaw1_TextWords.mono_l k
  unfold shardlaw1_TextWords.f
  repeat' first
      | (with_reducible exact ih0 _ _ _ _)
      | (with_reducible exact ih1 _ _ _ _ _ _ _)
      | (with_reducible exact ih2 _ _ _ _ _ _ _)
      | (with_reducible exact ih3 _ _ _ _ _ _ _)
      | (with_reducible exact ih4 _ _ _ _ _ _ _)
      | (with_reducible exact ih5 _ _ _ _ _ _ _ _)
      | (with_reducible exact shardlaw1_sameWords.mono _ _ _)
      | (with_reducible exact shardref1_Words.mono _ _)
      | (with_reducible exact text_Words.mono _ _)
      | (with_reducible exact LeO.refl _)
      | (with_reducible exact LeO.none _)
      | (with_reducible refine LeO.ite ?_ ?_)
      | (with_reducible refine LeO.bind ?_ (fun _ => ?_))
      | exact ih0 _ _ _ _
      | exact ih1 _ _ _ _ _ _ _
      | exact ih2 _ _ _ _ _ _ _
      | exact ih3 _ _ _ _ _ _ _
      | exact ih4 _ _ _ _ _ _ _
      | exact ih5 _ _ _ _ _ _ _ _
      | exact shardlaw1_sameWords.mono _ _ _
      | exact shardref1_Words.mono _ _
      | exact text_Words.mono _ _
      | exact LeO.none _
      | refine LeO.ite ?_ ?_
      | refine LeO.bind ?_ (fun _ => ?_)
set_option maxHeartbeats 8000000 in
set_option maxRecDepth 100000 in
theorem shardlaw1_TextWords.calls (k : Nat) (a0 : ByteArray) (r : Bool) (w : World) (hG_utf8 : glob_utf8 w) (h : shardlaw1_TextWords.f k a0 = some r) :
    Calls Tryd.prog 7 #[.string a0] w fun e w' => e = .returned (.bool r) ∧ Below w.heap.size w w' := by
  have hu45 := Tryd.underlying45
  have HG_utf8 := Aside0.mk hG_utf8
  clear hG_utf8
  have HB := Aside0.mk (Below.refl w.heap.size w)
  have H : ((shardref1_Words.f k a0).bind fun bt274 => ((text_Words.f k a0).bind fun bt279 => ((shardlaw1_sameWords.f k bt279.1 bt274.1).bind fun t284 => (if t284 = true then (if bt279.2.1 = bt274.2.1 then ((shardlaw1_num.f bt279.2.2).bind fun t285 => (shardlaw1_TextWords.j0 k a0 bt274.1 bt279.1 (t285 != bt274.2.2))) else (shardlaw1_TextWords.j0 k a0 bt274.1 bt279.1 true)) else (shardlaw1_TextWords.j0 k a0 bt274.1 bt279.1 true))))) = some r := h
  clear h
  replace H := Option.bind_eq_some_iff.mp H
  obtain ⟨⟨t274, t275, t276⟩, A20, H⟩ := H
  replace H : ((text_Words.f k a0).bind fun bt279 => ((shardlaw1_sameWords.f k bt279.1 t274).bind fun t284 => (if t284 = true then (if bt279.2.1 = t275 then ((shardlaw1_num.f bt279.2.2).bind fun t285 => (shardlaw1_TextWords.j0 k a0 t274 bt279.1 (t285 != t276))) else (shardlaw1_TextWords.j0 k a0 t274 bt279.1 true)) else (shardlaw1_TextWords.j0 k a0 t274 bt279.1 true)))) = some r := H
  have A2 := Aside0.mk A20
  clear A20
  replace H := Option.bind_eq_some_iff.mp H
  obtain ⟨⟨t279, t280, t281⟩, A30, H⟩ := H
  replace H : ((shardlaw1_sameWords.f k t279 t274).bind fun t284 => (if t284 = true then (if t280 = t275 then ((shardlaw1_num.f t281).bind fun t285 => (shardlaw1_TextWords.j0 k a0 t274 t279 (t285 != t276))) else (shardlaw1_TextWords.j0 k a0 t274 t279 true)) else (shardlaw1_TextWords.j0 k a0 t274 t279 true))) = some r := H
  have A3 := Aside0.mk A30
  clear A30
  replace H := Option.bind_eq_some_iff.mp H
  obtain ⟨t284, A40, H⟩ := H
  replace H : (if t284 = true then (if t280 = t275 then ((shardlaw1_num.f t281).bind fun t285 => (shardlaw1_TextWords.j0 k a0 t274 t279 (t285 != t276))) else (shardlaw1_TextWords.j0 k a0 t274 t279 true)) else (shardlaw1_TextWords.j0 k a0 t274 t279 true)) = some r := H
  have A4 := Aside0.mk A40
  clear A40
  have HC5 := Aside0.mk H
  clear H
  go_enter Tryd.func7, Tryd.ntmps7
  go_upto_region 4 with (first | ((with_reducible refine gate_callee (f := 20) rfl ?_); refine goesL_ (some 27) rfl rfl Tryd.func20 (by kernel_rfl) rfl #[.string a0] rfl (by (try simp only [List.map_toArray, List.map_cons, List.map_nil]); first | done | rfl | (simp only [List.length_drop, List.length_take]; rfl)) ?_; (with_reducible refine (shardref1_Words.calls k a0 t274 t275 t276 _ A2.out).mono ?_); rintro e w6 ⟨v277, rfl, ho0, hb⟩; refine ⟨_, rfl, ?_⟩; have n0_ := Aside0.mk (Kd.R_lower ho0 (below_size (by repeat (first | (with_reducible first | exact HB.out | apply below_alloc | apply pw_below_drewN | apply below_drew1) | exact HB.out)))); have n1_ := Aside0.mk (below_step (by repeat (first | (with_reducible first | exact HB.out | apply below_alloc | apply pw_below_drewN | apply below_drew1) | exact HB.out)) hb); clear HB; have HO278 := n0_; have HB := n1_; clear n0_ n1_; (try clear hb); (try clear hb2); (try clear hk); (try clear hi); (try clear ho0)) | ((with_reducible refine gate_callee (f := 21) rfl ?_); refine goesL_ (some 33) rfl rfl Tryd.func21 (by kernel_rfl) rfl #[.string a0] rfl (by (try simp only [List.map_toArray, List.map_cons, List.map_nil]); first | done | rfl | (simp only [List.length_drop, List.length_take]; rfl)) ?_; (with_reducible refine (text_Words.calls k a0 t279 t280 t281 _ ?side1 A3.out).mono ?_); (case side1 => exact glob_utf8.below HG_utf8.out (by repeat (first | (with_reducible first | exact HB.out | apply below_alloc | apply pw_below_drewN | apply below_drew1) | exact HB.out))); rintro e w7 ⟨v282, rfl, ho0, hb⟩; refine ⟨_, rfl, ?_⟩; have n0_ := Aside0.mk (Kd.R_below (by (with_reducible repeat (first | apply Kd.R_alloc | apply Kd.R_drewN | apply Kd.R_drew)); exact HO278.out) hb); have n1_ := Aside0.mk (Kd.R_lower ho0 (below_size (by repeat (first | (with_reducible first | exact HB.out | apply below_alloc | apply pw_below_drewN | apply below_drew1) | exact HB.out)))); have n2_ := Aside0.mk (below_step (by repeat (first | (with_reducible first | exact HB.out | apply below_alloc | apply pw_below_drewN | apply below_drew1) | exact HB.out)) hb); clear HO278; clear HB; have HO278 := n0_; have HO283 := n1_; have HB := n2_; clear n0_ n1_ n2_; (try clear hb); (try clear hb2); (try clear hk); (try clear hi); (try clear ho0); obtain ⟨Ao8, co8, eo8⟩ := Kd.R_slice HO283.out; subst eo8; obtain ⟨Ao9, co9, eo9⟩ := Kd.R_slice HO278.out; subst eo9) | ((with_reducible refine gate_callee (f := 22) rfl ?_); refine goesL_ (some 39) rfl rfl Tryd.func22 (by kernel_rfl) rfl #[.slice Ao8 t279.length co8, .slice Ao9 t274.length co9] rfl (by (try simp only [List.map_toArray, List.map_cons, List.map_nil]); first | done | rfl | (simp only [List.length_drop, List.length_take]; rfl)) ?_; (with_reducible refine (shardlaw1_sameWords.calls k _ _ t279 _ _ t274 t284 _ ?side1 ?side2 ?side3 ?side4 A4.out).mono ?_); (case side1 => repeat (first | exact (Kd.R_reads' HO283.out).2.2 | (with_reducible refine Kd.C_alloc ?_ _) | (with_reducible refine Kd.C_drewN ?_ _) | (with_reducible refine Kd.C_drew ?_))); (case side2 => exact (Kd.R_reads' HO283.out).2.1); (case side3 => repeat (first | exact (Kd.R_reads' HO278.out).2.2 | (with_reducible refine Kd.C_alloc ?_ _) | (with_reducible refine Kd.C_drewN ?_ _) | (with_reducible refine Kd.C_drew ?_))); (case side4 => exact (Kd.R_reads' HO278.out).2.1); rintro e w' ⟨rfl, ⟨nd, rfl⟩⟩; refine ⟨_, rfl, ?_⟩))
  (try simp only [Act.put, List.setIfInBounds_toArray, List.set_cons_zero, List.set_cons_succ])
  go_cut [52] (fun v52 wc => ∃ (kq : Nat) (x52_4 : Bool), v52 = .bool x52_4 ∧ Aside0 (shardlaw1_TextWords.j0 kq a0 t274 t279 x52_4 = some r) ∧ Aside0 (kq ≤ k) ∧ Aside0 (Kd.R k75 75 wc w.heap.size (fun _ => True) (.slice Ao9 t274.length co9) t274) ∧ Aside0 (Kd.R k45 45 wc w.heap.size (fun _ => True) (.slice Ao8 t279.length co8) t279) ∧ Aside0 (Below w.heap.size w wc))
  case first =>
    have H := HC5.out
    clear HC5
    by_cases c10 : t284 = true
    · subst c10
      have H1 : (if t280 = t275 then ((shardlaw1_num.f t281).bind fun t285 => (shardlaw1_TextWords.j0 k a0 t274 t279 (t285 != t276))) else (shardlaw1_TextWords.j0 k a0 t274 t279 true)) = some r := by rw [if_pos rfl] at H; exact H
      clear H
      have H := H1
      clear H1
      by_cases c11 : t280 = t275
      · rw [if_pos c11] at H
        have c11b0 : (t280 == t275) = true := beq_iff_eq.mpr c11
        have c11b1 : (t280 != t275) = false := bne_eq_false_iff_eq.mpr c11
        clear c11
        (first | rw [c11b0] | (simp only [i64_w, i32_w]; rw [c11b0]) | skip)
        replace H := Option.bind_eq_some_iff.mp H
        obtain ⟨t285, A120, H⟩ := H
        replace H : (shardlaw1_TextWords.j0 k a0 t274 t279 (t285 != t276)) = some r := H
        have A12 := Aside0.mk A120
        clear A120
        have H' := Aside0.mk H
        clear H
        go_wp2_with (first | (go_at_call 14; (with_reducible refine (shardlaw1_num.calls t281 t285 _ A12.out).mono ?_); rintro e w' ⟨rfl, ⟨nd, rfl⟩⟩))
        go_meet
        case rel => exact ⟨_, ((t285 != t276)), (by first | rfl | (simp; done) | (simp [*]; done)), H', ⟨by first | omega | exact Nat.le_refl _⟩, ⟨by (with_reducible repeat (first | apply Kd.R_alloc | apply Kd.R_drewN | apply Kd.R_drew)); exact HO278.out⟩, ⟨by (with_reducible repeat (first | apply Kd.R_alloc | apply Kd.R_drewN | apply Kd.R_drew)); exact HO283.out⟩, ⟨by repeat (first | (with_reducible first | exact HB.out | apply below_alloc | apply pw_below_drewN | apply below_drew1) | exact HB.out)⟩⟩
      · rw [if_neg c11] at H
        have c11b0 : (t280 == t275) = false := beq_eq_false_iff_ne.mpr c11
        have c11b1 : (t280 != t275) = true := bne_iff_ne.mpr c11
        (first | rw [c11b0] | (simp only [i64_w, i32_w]; rw [c11b0]) | skip)
        have H' := Aside0.mk H
        clear H
        go_wp2
        go_meet
        case rel => exact ⟨_, (true), (by first | rfl | (simp; done) | (simp [*]; done)), H', ⟨by first | omega | exact Nat.le_refl _⟩, ⟨by (with_reducible repeat (first | apply Kd.R_alloc | apply Kd.R_drewN | apply Kd.R_drew)); exact HO278.out⟩, ⟨by (with_reducible repeat (first | apply Kd.R_alloc | apply Kd.R_drewN | apply Kd.R_drew)); exact HO283.out⟩, ⟨by repeat (first | (with_reducible first | exact HB.out | apply below_alloc | apply pw_below_drewN | apply below_drew1) | exact HB.out)⟩⟩
    · replace c10 := Bool.eq_false_iff.mpr c10
      subst c10
      have H1 : (shardlaw1_TextWords.j0 k a0 t274 t279 true) = some r := by rw [if_neg (show ¬ (false = true) by decide)] at H; exact H
      clear H
      have H := H1
      clear H1
      have H' := Aside0.mk H
      clear H
      go_wp2
      go_meet
      case rel => exact ⟨_, (true), (by first | rfl | (simp; done) | (simp [*]; done)), H', ⟨by first | omega | exact Nat.le_refl _⟩, ⟨by (with_reducible repeat (first | apply Kd.R_alloc | apply Kd.R_drewN | apply Kd.R_drew)); exact HO278.out⟩, ⟨by (with_reducible repeat (first | apply Kd.R_alloc | apply Kd.R_drewN | apply Kd.R_drew)); exact HO283.out⟩, ⟨by repeat (first | (with_reducible first | exact HB.out | apply below_alloc | apply pw_below_drewN | apply below_drew1) | exact HB.out)⟩⟩
  case rest =>
    clear HC5
    try clear c1
    try clear c2
    try clear p2
    try clear c7
    try clear c10
    try clear c11
    try clear c11b0
    try clear c11b1
    obtain ⟨kq, x52_4, rfl, HA, HJ4, HO_3, HO_6, HB⟩ := hcut
    cases kq with
    | zero => exact absurd HA.out (by simp [shardlaw1_TextWords.j0])
    | succ kj4 =>
      have H := HA.out
      clear HA
      simp only [shardlaw1_TextWords.j0] at H
      by_cases c13 : x52_4 = true
      · subst c13
        have H1 : (some false) = some r := by rw [if_pos rfl] at H; exact H
        clear H
        have H := H1
        clear H1
        obtain rfl := Option.some.inj H
        go_wp2
        go_ret
        exact ⟨by first | rfl | (simp [errW_none, errW_some] <;> rfl) | (simp [*, errW_none, errW_some] <;> rfl), by repeat (first | (with_reducible first | exact HB.out | apply below_alloc | apply pw_below_drewN | apply below_drew1) | exact HB.out)⟩
      · replace c13 := Bool.eq_false_iff.mpr c13
        subst c13
        have H1 : (if 6 + a0.size ≤ 9223372036854775807 then ((text_Words.f kj4 ((⟨#[111, 116, 104, 101, 114, 32]⟩ : ByteArray) ++ a0)).bind fun bt286 => ((text_Words.f kj4 a0).bind fun bt291 => ((shardref1_Words.f kj4 ((⟨#[111, 116, 104, 101, 114, 32]⟩ : ByteArray) ++ a0)).bind fun bt296 => ((shardlaw1_sameWords.f kj4 t279 t274).bind fun t301 => (if t301 = true then ((shardlaw1_sameWords.f kj4 bt291.1 t274).bind fun t302 => (if t302 = true then ((shardlaw1_sameWords.f kj4 bt286.1 bt296.1).bind fun t303 => (shardlaw1_TextWords.j1 kj4 a0 t274 t279 t303 bt286.1 bt291.1 bt296.1)) else (shardlaw1_TextWords.j1 kj4 a0 t274 t279 false bt286.1 bt291.1 bt296.1))) else (shardlaw1_TextWords.j1 kj4 a0 t274 t279 false bt286.1 bt291.1 bt296.1)))))) else (none)) = some r := by rw [if_neg (show ¬ (false = true) by decide)] at H; exact H
        clear H
        have H := H1
        clear H1
        by_cases c14 : 6 + a0.size ≤ 9223372036854775807
        · rw [if_pos c14] at H
          have c14b0 := eq_true c14
          have c14b1 : decide (6 + a0.size ≤ 9223372036854775807) = true := decide_eq_true c14
          try have c14b2 : (9223372036854775807 < 6 + a0.size) = False := eq_false (Nat.not_lt.2 c14)
          replace H := Option.bind_eq_some_iff.mp H
          obtain ⟨⟨t286, t287, t288⟩, A150, H⟩ := H
          replace H : ((text_Words.f kj4 a0).bind fun bt291 => ((shardref1_Words.f kj4 ((⟨#[111, 116, 104, 101, 114, 32]⟩ : ByteArray) ++ a0)).bind fun bt296 => ((shardlaw1_sameWords.f kj4 t279 t274).bind fun t301 => (if t301 = true then ((shardlaw1_sameWords.f kj4 bt291.1 t274).bind fun t302 => (if t302 = true then ((shardlaw1_sameWords.f kj4 t286 bt296.1).bind fun t303 => (shardlaw1_TextWords.j1 kj4 a0 t274 t279 t303 t286 bt291.1 bt296.1)) else (shardlaw1_TextWords.j1 kj4 a0 t274 t279 false t286 bt291.1 bt296.1))) else (shardlaw1_TextWords.j1 kj4 a0 t274 t279 false t286 bt291.1 bt296.1))))) = some r := H
          have A15 := Aside0.mk A150
          clear A150
          replace H := Option.bind_eq_some_iff.mp H
          obtain ⟨⟨t291, t292, t293⟩, A160, H⟩ := H
          replace H : ((shardref1_Words.f kj4 ((⟨#[111, 116, 104, 101, 114, 32]⟩ : ByteArray) ++ a0)).bind fun bt296 => ((shardlaw1_sameWords.f kj4 t279 t274).bind fun t301 => (if t301 = true then ((shardlaw1_sameWords.f kj4 t291 t274).bind fun t302 => (if t302 = true then ((shardlaw1_sameWords.f kj4 t286 bt296.1).bind fun t303 => (shardlaw1_TextWords.j1 kj4 a0 t274 t279 t303 t286 t291 bt296.1)) else (shardlaw1_TextWords.j1 kj4 a0 t274 t279 false t286 t291 bt296.1))) else (shardlaw1_TextWords.j1 kj4 a0 t274 t279 false t286 t291 bt296.1)))) = some r := H
          have A16 := Aside0.mk A160
          clear A160
          replace H := Option.bind_eq_some_iff.mp H
          obtain ⟨⟨t296, t297, t298⟩, A170, H⟩ := H
          replace H : ((shardlaw1_sameWords.f kj4 t279 t274).bind fun t301 => (if t301 = true then ((shardlaw1_sameWords.f kj4 t291 t274).bind fun t302 => (if t302 = true then ((shardlaw1_sameWords.f kj4 t286 t296).bind fun t303 => (shardlaw1_TextWords.j1 kj4 a0 t274 t279 t303 t286 t291 t296)) else (shardlaw1_TextWords.j1 kj4 a0 t274 t279 false t286 t291 t296))) else (shardlaw1_TextWords.j1 kj4 a0 t274 t279 false t286 t291 t296))) = some r := H
          have A17 := Aside0.mk A170
          clear A170
          have HC18 := Aside0.mk H
          clear H
          go_upto_region 9 with (first | ((with_reducible refine gate_callee (f := 21) rfl ?_); refine goesL_ (some 56) rfl rfl Tryd.func21 (by kernel_rfl) rfl #[.string ((⟨#[111, 116, 104, 101, 114, 32]⟩ : ByteArray) ++ a0)] rfl (by (try simp only [List.map_toArray, List.map_cons, List.map_nil]); first | done | rfl | (simp only [List.length_drop, List.length_take]; rfl)) ?_; (with_reducible refine (text_Words.calls kj4 ((⟨#[111, 116, 104, 101, 114, 32]⟩ : ByteArray) ++ a0) t286 t287 t288 _ ?side1 A15.out).mono ?_); (case side1 => exact glob_utf8.below HG_utf8.out (by repeat (first | (with_reducible first | exact HB.out | apply below_alloc | apply pw_below_drewN | apply below_drew1) | exact HB.out))); rintro e w19 ⟨v289, rfl, ho0, hb⟩; refine ⟨_, rfl, ?_⟩; have n0_ := Aside0.mk (Kd.R_below (by (with_reducible repeat (first | apply Kd.R_alloc | apply Kd.R_drewN | apply Kd.R_drew)); exact HO_3.out) hb); have n1_ := Aside0.mk (Kd.R_elder' (by (with_reducible repeat (first | apply Kd.R_alloc | apply Kd.R_drewN | apply Kd.R_drew)); exact HO_6.out) (Kd.R_base ho0) hb); have n2_ := Aside0.mk (Kd.R_lower (Kd.R_new' ho0 (Kd.R_lt (by (with_reducible repeat (first | apply Kd.R_alloc | apply Kd.R_drewN | apply Kd.R_drew)); exact HO_6.out))) (below_size (by repeat (first | (with_reducible first | exact HB.out | apply below_alloc | apply pw_below_drewN | apply below_drew1) | exact HB.out)))); have n3_ := Aside0.mk (below_step (by repeat (first | (with_reducible first | exact HB.out | apply below_alloc | apply pw_below_drewN | apply below_drew1) | exact HB.out)) hb); clear HO_3; clear HO_6; clear HB; have HO_3 := n0_; have HO_6 := n1_; have HO290 := n2_; have HB := n3_; clear n0_ n1_ n2_ n3_; (try clear hb); (try clear hb2); (try clear hk); (try clear hi); (try clear ho0)) | ((with_reducible refine gate_callee (f := 21) rfl ?_); refine goesL_ (some 62) rfl rfl Tryd.func21 (by kernel_rfl) rfl #[.string a0] rfl (by (try simp only [List.map_toArray, List.map_cons, List.map_nil]); first | done | rfl | (simp only [List.length_drop, List.length_take]; rfl)) ?_; (with_reducible refine (text_Words.calls kj4 a0 t291 t292 t293 _ ?side1 A16.out).mono ?_); (case side1 => exact glob_utf8.below HG_utf8.out (by repeat (first | (with_reducible first | exact HB.out | apply below_alloc | apply pw_below_drewN | apply below_drew1) | exact HB.out))); rintro e w20 ⟨v294, rfl, ho0, hb⟩; refine ⟨_, rfl, ?_⟩; have n0_ := Aside0.mk (Kd.R_below (by (with_reducible repeat (first | apply Kd.R_alloc | apply Kd.R_drewN | apply Kd.R_drew)); exact HO_3.out) hb); have n1_ := Aside0.mk (Kd.R_elder' (by (with_reducible repeat (first | apply Kd.R_alloc | apply Kd.R_drewN | apply Kd.R_drew)); exact HO_6.out) (Kd.R_base ho0) hb); have n2_ := Aside0.mk (Kd.R_elder' (by (with_reducible repeat (first | apply Kd.R_alloc | apply Kd.R_drewN | apply Kd.R_drew)); exact HO290.out) (Kd.R_base ho0) hb); have n3_ := Aside0.mk (Kd.R_lower (Kd.R_new' (Kd.R_new' ho0 (Kd.R_lt (by (with_reducible repeat (first | apply Kd.R_alloc | apply Kd.R_drewN | apply Kd.R_drew)); exact HO_6.out))) (Kd.R_lt (by (with_reducible repeat (first | apply Kd.R_alloc | apply Kd.R_drewN | apply Kd.R_drew)); exact HO290.out))) (below_size (by repeat (first | (with_reducible first | exact HB.out | apply below_alloc | apply pw_below_drewN | apply below_drew1) | exact HB.out)))); have n4_ := Aside0.mk (below_step (by repeat (first | (with_reducible first | exact HB.out | apply below_alloc | apply pw_below_drewN | apply below_drew1) | exact HB.out)) hb); clear HO_3; clear HO_6; clear HO290; clear HB; have HO_3 := n0_; have HO_6 := n1_; have HO290 := n2_; have HO295 := n3_; have HB := n4_; clear n0_ n1_ n2_ n3_ n4_; (try clear hb); (try clear hb2); (try clear hk); (try clear hi); (try clear ho0)) | ((with_reducible refine gate_callee (f := 20) rfl ?_); refine goesL_ (some 69) rfl rfl Tryd.func20 (by kernel_rfl) rfl #[.string ((⟨#[111, 116, 104, 101, 114, 32]⟩ : ByteArray) ++ a0)] rfl (by (try simp only [List.map_toArray, List.map_cons, List.map_nil]); first | done | rfl | (simp only [List.length_drop, List.length_take]; rfl)) ?_; (with_reducible refine (shardref1_Words.calls kj4 ((⟨#[111, 116, 104, 101, 114, 32]⟩ : ByteArray) ++ a0) t296 t297 t298 _ A17.out).mono ?_); rintro e w21 ⟨v299, rfl, ho0, hb⟩; refine ⟨_, rfl, ?_⟩; have n0_ := Aside0.mk (Kd.R_elder' (by (with_reducible repeat (first | apply Kd.R_alloc | apply Kd.R_drewN | apply Kd.R_drew)); exact HO_3.out) (Kd.R_base ho0) hb); have n1_ := Aside0.mk (Kd.R_below (by (with_reducible repeat (first | apply Kd.R_alloc | apply Kd.R_drewN | apply Kd.R_drew)); exact HO_6.out) hb); have n2_ := Aside0.mk (Kd.R_below (by (with_reducible repeat (first | apply Kd.R_alloc | apply Kd.R_drewN | apply Kd.R_drew)); exact HO290.out) hb); have n3_ := Aside0.mk (Kd.R_below (by (with_reducible repeat (first | apply Kd.R_alloc | apply Kd.R_drewN | apply Kd.R_drew)); exact HO295.out) hb); have n4_ := Aside0.mk (Kd.R_lower (Kd.R_new' ho0 (Kd.R_lt (by (with_reducible repeat (first | apply Kd.R_alloc | apply Kd.R_drewN | apply Kd.R_drew)); exact HO_3.out))) (below_size (by repeat (first | (with_reducible first | exact HB.out | apply below_alloc | apply pw_below_drewN | apply below_drew1) | exact HB.out)))); have n5_ := Aside0.mk (below_step (by repeat (first | (with_reducible first | exact HB.out | apply below_alloc | apply pw_below_drewN | apply below_drew1) | exact HB.out)) hb); clear HO_3; clear HO_6; clear HO290; clear HO295; clear HB; have HO_3 := n0_; have HO_6 := n1_; have HO290 := n2_; have HO295 := n3_; have HO300 := n4_; have HB := n5_; clear n0_ n1_ n2_ n3_ n4_ n5_; (try clear hb); (try clear hb2); (try clear hk); (try clear hi); (try clear ho0)))
          (try simp only [Act.put, List.setIfInBounds_toArray, List.set_cons_zero, List.set_cons_succ])
          go_cut [9] (fun v9 wc => ∃ (kq : Nat) (x9_17 : Bool), v9 = .bool x9_17 ∧ Aside0 (shardlaw1_TextWords.j1 kq a0 t274 t279 x9_17 t286 t291 t296 = some r) ∧ Aside0 (kq ≤ kj4) ∧ Aside0 (Kd.R k75 75 wc w.heap.size (fun k_ => some k_ ≠ (v299 : Value).ownBlock) (.slice Ao9 t274.length co9) t274) ∧ Aside0 (Kd.R k45 45 wc w.heap.size (fun k_ => some k_ ≠ (v289 : Value).ownBlock ∧ some k_ ≠ (v294 : Value).ownBlock) (.slice Ao8 t279.length co8) t279) ∧ Aside0 (Kd.R k45 45 wc w.heap.size (fun k_ => some k_ ≠ ((.slice Ao8 t279.length co8) : Value).ownBlock ∧ some k_ ≠ (v294 : Value).ownBlock) v289 t286) ∧ Aside0 (Kd.R k45 45 wc w.heap.size (fun k_ => some k_ ≠ ((.slice Ao8 t279.length co8) : Value).ownBlock ∧ some k_ ≠ (v289 : Value).ownBlock) v294 t291) ∧ Aside0 (Kd.R k75 75 wc w.heap.size (fun k_ => some k_ ≠ ((.slice Ao9 t274.length co9) : Value).ownBlock) v299 t296) ∧ Aside0 (Below w.heap.size w wc))
          case first =>
            have H := HC18.out
            clear HC18
            replace H := Option.bind_eq_some_iff.mp H
            obtain ⟨t301, A220, H⟩ := H
            replace H : (if t301 = true then ((shardlaw1_sameWords.f kj4 t291 t274).bind fun t302 => (if t302 = true then ((shardlaw1_sameWords.f kj4 t286 t296).bind fun t303 => (shardlaw1_TextWords.j1 kj4 a0 t274 t279 t303 t286 t291 t296)) else (shardlaw1_TextWords.j1 kj4 a0 t274 t279 false t286 t291 t296))) else (shardlaw1_TextWords.j1 kj4 a0 t274 t279 false t286 t291 t296)) = some r := H
            have A22 := Aside0.mk A220
            clear A220
            by_cases c23 : t301 = true
            · subst c23
              have H1 : ((shardlaw1_sameWords.f kj4 t291 t274).bind fun t302 => (if t302 = true then ((shardlaw1_sameWords.f kj4 t286 t296).bind fun t303 => (shardlaw1_TextWords.j1 kj4 a0 t274 t279 t303 t286 t291 t296)) else (shardlaw1_TextWords.j1 kj4 a0 t274 t279 false t286 t291 t296))) = some r := by rw [if_pos rfl] at H; exact H
              clear H
              have H := H1
              clear H1
              replace H := Option.bind_eq_some_iff.mp H
              obtain ⟨t302, A240, H⟩ := H
              replace H : (if t302 = true then ((shardlaw1_sameWords.f kj4 t286 t296).bind fun t303 => (shardlaw1_TextWords.j1 kj4 a0 t274 t279 t303 t286 t291 t296)) else (shardlaw1_TextWords.j1 kj4 a0 t274 t279 false t286 t291 t296)) = some r := H
              have A24 := Aside0.mk A240
              clear A240
              by_cases c25 : t302 = true
              · subst c25
                have H1 : ((shardlaw1_sameWords.f kj4 t286 t296).bind fun t303 => (shardlaw1_TextWords.j1 kj4 a0 t274 t279 t303 t286 t291 t296)) = some r := by rw [if_pos rfl] at H; exact H
                clear H
                have H := H1
                clear H1
                replace H := Option.bind_eq_some_iff.mp H
                obtain ⟨t303, A260, H⟩ := H
                replace H : (shardlaw1_TextWords.j1 kj4 a0 t274 t279 t303 t286 t291 t296) = some r := H
                have A26 := Aside0.mk A260
                clear A260
                have H' := Aside0.mk H
                clear H
                go_wp2_with (first | ((with_reducible refine gate_callee (f := 22) rfl ?_); refine goesL_ (some 75) rfl rfl Tryd.func22 (by kernel_rfl) rfl #[.slice Ao8 t279.length co8, .slice Ao9 t274.length co9] rfl (by (try simp only [List.map_toArray, List.map_cons, List.map_nil]); first | done | rfl | (simp only [List.length_drop, List.length_take]; rfl)) ?_; (with_reducible refine (shardlaw1_sameWords.calls kj4 _ _ t279 _ _ t274 true _ ?side1 ?side2 ?side3 ?side4 A22.out).mono ?_); (case side1 => repeat (first | exact (Kd.R_reads' HO_6.out).2.2 | (with_reducible refine Kd.C_alloc ?_ _) | (with_reducible refine Kd.C_drewN ?_ _) | (with_reducible refine Kd.C_drew ?_))); (case side2 => exact (Kd.R_reads' HO_6.out).2.1); (case side3 => repeat (first | exact (Kd.R_reads' HO_3.out).2.2 | (with_reducible refine Kd.C_alloc ?_ _) | (with_reducible refine Kd.C_drewN ?_ _) | (with_reducible refine Kd.C_drew ?_))); (case side4 => exact (Kd.R_reads' HO_3.out).2.1); rintro e w' ⟨rfl, ⟨nd, rfl⟩⟩; refine ⟨_, rfl, ?_⟩; obtain ⟨Ao27, co27, eo27⟩ := Kd.R_slice HO295.out; subst eo27) | (go_at_call 22; (with_reducible refine (shardlaw1_sameWords.calls kj4 _ _ t291 _ _ t274 true _ ?side1 ?side2 ?side3 ?side4 A24.out).mono ?_); (case side1 => repeat (first | exact (Kd.R_reads' HO295.out).2.2 | (with_reducible refine Kd.C_alloc ?_ _) | (with_reducible refine Kd.C_drewN ?_ _) | (with_reducible refine Kd.C_drew ?_))); (case side2 => exact (Kd.R_reads' HO295.out).2.1); (case side3 => repeat (first | exact (Kd.R_reads' HO_3.out).2.2 | (with_reducible refine Kd.C_alloc ?_ _) | (with_reducible refine Kd.C_drewN ?_ _) | (with_reducible refine Kd.C_drew ?_))); (case side4 => exact (Kd.R_reads' HO_3.out).2.1); rintro e w' ⟨rfl, ⟨nd, rfl⟩⟩; obtain ⟨Ao28, co28, eo28⟩ := Kd.R_slice HO290.out; subst eo28; obtain ⟨Ao29, co29, eo29⟩ := Kd.R_slice HO300.out; subst eo29) | (go_at_call 22; (with_reducible refine (shardlaw1_sameWords.calls kj4 _ _ t286 _ _ t296 t303 _ ?side1 ?side2 ?side3 ?side4 A26.out).mono ?_); (case side1 => repeat (first | exact (Kd.R_reads' HO290.out).2.2 | (with_reducible refine Kd.C_alloc ?_ _) | (with_reducible refine Kd.C_drewN ?_ _) | (with_reducible refine Kd.C_drew ?_))); (case side2 => exact (Kd.R_reads' HO290.out).2.1); (case side3 => repeat (first | exact (Kd.R_reads' HO300.out).2.2 | (with_reducible refine Kd.C_alloc ?_ _) | (with_reducible refine Kd.C_drewN ?_ _) | (with_reducible refine Kd.C_drew ?_))); (case side4 => exact (Kd.R_reads' HO300.out).2.1); rintro e w' ⟨rfl, ⟨nd, rfl⟩⟩))
                go_meet
                case rel => exact ⟨_, (t303), (by first | rfl | (simp; done) | (simp [*]; done)), H', ⟨by have := HJ4.out; first | omega | exact Nat.le_refl _⟩, ⟨by (with_reducible repeat (first | apply Kd.R_alloc | apply Kd.R_drewN | apply Kd.R_drew)); exact Kd.R_mono HO_3.out (fun _ hk => hk.2)⟩, ⟨by (with_reducible repeat (first | apply Kd.R_alloc | apply Kd.R_drewN | apply Kd.R_drew)); exact Kd.R_mono HO_6.out (fun _ hk => ⟨hk.1.2, hk.2⟩)⟩, ⟨by (with_reducible repeat (first | apply Kd.R_alloc | apply Kd.R_drewN | apply Kd.R_drew)); exact Kd.R_mono HO290.out (fun _ hk => ⟨hk.1.2, hk.2⟩)⟩, ⟨by (with_reducible repeat (first | apply Kd.R_alloc | apply Kd.R_drewN | apply Kd.R_drew)); exact Kd.R_mono HO295.out (fun _ hk => ⟨hk.1.2, hk.2⟩)⟩, ⟨by (with_reducible repeat (first | apply Kd.R_alloc | apply Kd.R_drewN | apply Kd.R_drew)); exact Kd.R_mono HO300.out (fun _ hk => hk.2)⟩, ⟨by repeat (first | (with_reducible first | exact HB.out | apply below_alloc | apply pw_below_drewN | apply below_drew1) | exact HB.out)⟩⟩
              · replace c25 := Bool.eq_false_iff.mpr c25
                subst c25
                have H1 : (shardlaw1_TextWords.j1 kj4 a0 t274 t279 false t286 t291 t296) = some r := by rw [if_neg (show ¬ (false = true) by decide)] at H; exact H
                clear H
                have H := H1
                clear H1
                have H' := Aside0.mk H
                clear H
                go_wp2_with (first | ((with_reducible refine gate_callee (f := 22) rfl ?_); refine goesL_ (some 75) rfl rfl Tryd.func22 (by kernel_rfl) rfl #[.slice Ao8 t279.length co8, .slice Ao9 t274.length co9] rfl (by (try simp only [List.map_toArray, List.map_cons, List.map_nil]); first | done | rfl | (simp only [List.length_drop, List.length_take]; rfl)) ?_; (with_reducible refine (shardlaw1_sameWords.calls kj4 _ _ t279 _ _ t274 true _ ?side1 ?side2 ?side3 ?side4 A22.out).mono ?_); (case side1 => repeat (first | exact (Kd.R_reads' HO_6.out).2.2 | (with_reducible refine Kd.C_alloc ?_ _) | (with_reducible refine Kd.C_drewN ?_ _) | (with_reducible refine Kd.C_drew ?_))); (case side2 => exact (Kd.R_reads' HO_6.out).2.1); (case side3 => repeat (first | exact (Kd.R_reads' HO_3.out).2.2 | (with_reducible refine Kd.C_alloc ?_ _) | (with_reducible refine Kd.C_drewN ?_ _) | (with_reducible refine Kd.C_drew ?_))); (case side4 => exact (Kd.R_reads' HO_3.out).2.1); rintro e w' ⟨rfl, ⟨nd, rfl⟩⟩; refine ⟨_, rfl, ?_⟩; obtain ⟨Ao30, co30, eo30⟩ := Kd.R_slice HO295.out; subst eo30) | (go_at_call 22; (with_reducible refine (shardlaw1_sameWords.calls kj4 _ _ t291 _ _ t274 false _ ?side1 ?side2 ?side3 ?side4 A24.out).mono ?_); (case side1 => repeat (first | exact (Kd.R_reads' HO295.out).2.2 | (with_reducible refine Kd.C_alloc ?_ _) | (with_reducible refine Kd.C_drewN ?_ _) | (with_reducible refine Kd.C_drew ?_))); (case side2 => exact (Kd.R_reads' HO295.out).2.1); (case side3 => repeat (first | exact (Kd.R_reads' HO_3.out).2.2 | (with_reducible refine Kd.C_alloc ?_ _) | (with_reducible refine Kd.C_drewN ?_ _) | (with_reducible refine Kd.C_drew ?_))); (case side4 => exact (Kd.R_reads' HO_3.out).2.1); rintro e w' ⟨rfl, ⟨nd, rfl⟩⟩))
                go_meet
                case rel => exact ⟨_, (false), (by first | rfl | (simp; done) | (simp [*]; done)), H', ⟨by have := HJ4.out; first | omega | exact Nat.le_refl _⟩, ⟨by (with_reducible repeat (first | apply Kd.R_alloc | apply Kd.R_drewN | apply Kd.R_drew)); exact Kd.R_mono HO_3.out (fun _ hk => hk.2)⟩, ⟨by (with_reducible repeat (first | apply Kd.R_alloc | apply Kd.R_drewN | apply Kd.R_drew)); exact Kd.R_mono HO_6.out (fun _ hk => ⟨hk.1.2, hk.2⟩)⟩, ⟨by (with_reducible repeat (first | apply Kd.R_alloc | apply Kd.R_drewN | apply Kd.R_drew)); exact Kd.R_mono HO290.out (fun _ hk => ⟨hk.1.2, hk.2⟩)⟩, ⟨by (with_reducible repeat (first | apply Kd.R_alloc | apply Kd.R_drewN | apply Kd.R_drew)); exact Kd.R_mono HO295.out (fun _ hk => ⟨hk.1.2, hk.2⟩)⟩, ⟨by (with_reducible repeat (first | apply Kd.R_alloc | apply Kd.R_drewN | apply Kd.R_drew)); exact Kd.R_mono HO300.out (fun _ hk => hk.2)⟩, ⟨by repeat (first | (with_reducible first | exact HB.out | apply below_alloc | apply pw_below_drewN | apply below_drew1) | exact HB.out)⟩⟩
            · replace c23 := Bool.eq_false_iff.mpr c23
              subst c23
              have H1 : (shardlaw1_TextWords.j1 kj4 a0 t274 t279 false t286 t291 t296) = some r := by rw [if_neg (show ¬ (false = true) by decide)] at H; exact H
              clear H
              have H := H1
              clear H1
              have H' := Aside0.mk H
              clear H
              go_wp2_with (first | ((with_reducible refine gate_callee (f := 22) rfl ?_); refine goesL_ (some 75) rfl rfl Tryd.func22 (by kernel_rfl) rfl #[.slice Ao8 t279.length co8, .slice Ao9 t274.length co9] rfl (by (try simp only [List.map_toArray, List.map_cons, List.map_nil]); first | done | rfl | (simp only [List.length_drop, List.length_take]; rfl)) ?_; (with_reducible refine (shardlaw1_sameWords.calls kj4 _ _ t279 _ _ t274 false _ ?side1 ?side2 ?side3 ?side4 A22.out).mono ?_); (case side1 => repeat (first | exact (Kd.R_reads' HO_6.out).2.2 | (with_reducible refine Kd.C_alloc ?_ _) | (with_reducible refine Kd.C_drewN ?_ _) | (with_reducible refine Kd.C_drew ?_))); (case side2 => exact (Kd.R_reads' HO_6.out).2.1); (case side3 => repeat (first | exact (Kd.R_reads' HO_3.out).2.2 | (with_reducible refine Kd.C_alloc ?_ _) | (with_reducible refine Kd.C_drewN ?_ _) | (with_reducible refine Kd.C_drew ?_))); (case side4 => exact (Kd.R_reads' HO_3.out).2.1); rintro e w' ⟨rfl, ⟨nd, rfl⟩⟩; refine ⟨_, rfl, ?_⟩))
              go_meet
              case rel => exact ⟨_, (false), (by first | rfl | (simp; done) | (simp [*]; done)), H', ⟨by have := HJ4.out; first | omega | exact Nat.le_refl _⟩, ⟨by (with_reducible repeat (first | apply Kd.R_alloc | apply Kd.R_drewN | apply Kd.R_drew)); exact Kd.R_mono HO_3.out (fun _ hk => hk.2)⟩, ⟨by (with_reducible repeat (first | apply Kd.R_alloc | apply Kd.R_drewN | apply Kd.R_drew)); exact Kd.R_mono HO_6.out (fun _ hk => ⟨hk.1.2, hk.2⟩)⟩, ⟨by (with_reducible repeat (first | apply Kd.R_alloc | apply Kd.R_drewN | apply Kd.R_drew)); exact Kd.R_mono HO290.out (fun _ hk => ⟨hk.1.2, hk.2⟩)⟩, ⟨by (with_reducible repeat (first | apply Kd.R_alloc | apply Kd.R_drewN | apply Kd.R_drew)); exact Kd.R_mono HO295.out (fun _ hk => ⟨hk.1.2, hk.2⟩)⟩, ⟨by (with_reducible repeat (first | apply Kd.R_alloc | apply Kd.R_drewN | apply Kd.R_drew)); exact Kd.R_mono HO300.out (fun _ hk => hk.2)⟩, ⟨by repeat (first | (with_reducible first | exact HB.out | apply below_alloc | apply pw_below_drewN | apply below_drew1) | exact HB.out)⟩⟩
          case rest =>
            clear HC18
            try clear c1
            try clear c2
            try clear p2
            try clear c7
            try clear c10
            try clear c11
            try clear c11b0
            try clear c11b1
            try clear c13
            try clear c14
            try clear c14b0
            try clear c14b1
            try clear c14b2
            try clear c20
            try clear c21
            try clear c22
            try clear c23
            try clear c25
            try clear p2
            obtain ⟨kq, x9_17, rfl, HA, HJ17, HO_3, HO_6, HO_10, HO_13, HO_16, HB⟩ := hcut
            cases kq with
            | zero => exact absurd HA.out (by simp [shardlaw1_TextWords.j1])
            | succ kj17 =>
              have H := HA.out
              clear HA
              simp only [shardlaw1_TextWords.j1] at H
              by_cases c31 : x9_17 = true
              · subst c31
                have H1 : (shardlaw1_TextWords.l0 kj17 a0 t274 t279 t286 t291 t296 0) = some r := by rw [if_pos rfl] at H; exact H
                clear H
                have H := H1
                clear H1
                have H' := Aside0.mk H
                clear H
                go_wp2
                go_loopg [19] kj17 (fun kq v19 w' => ∃ (x6_3 : List (S45)) (x19_3 : Int), v19 = .int .i64 x19_3 ∧ Aside0 (shardlaw1_TextWords.l0 kq a0 t274 x6_3 t286 t291 t296 x19_3 = some r) ∧ Aside0 (kq ≤ kj17) ∧ Aside0 (Kd.R k75 75 w' w.heap.size (fun k_ => some k_ ≠ (v299 : Value).ownBlock) (.slice Ao9 t274.length co9) t274) ∧ Aside0 (Kd.R k45 45 w' w.heap.size (fun k_ => some k_ ≠ (v289 : Value).ownBlock ∧ some k_ ≠ (v294 : Value).ownBlock) (.slice Ao8 t279.length co8) x6_3) ∧ Aside0 (Kd.R k45 45 w' w.heap.size (fun k_ => some k_ ≠ ((.slice Ao8 t279.length co8) : Value).ownBlock ∧ some k_ ≠ (v294 : Value).ownBlock) v289 t286) ∧ Aside0 (Kd.R k45 45 w' w.heap.size (fun k_ => some k_ ≠ ((.slice Ao8 t279.length co8) : Value).ownBlock ∧ some k_ ≠ (v289 : Value).ownBlock) v294 t291) ∧ Aside0 (Kd.R k75 75 w' w.heap.size (fun k_ => some k_ ≠ ((.slice Ao9 t274.length co9) : Value).ownBlock) v299 t296) ∧ Aside0 (Below w.heap.size w w'))
                case atStart => exact ⟨(t279), (0), (by first | rfl | (simp; done) | (simp [*]; done)), H', ⟨Nat.le_refl _⟩, ⟨by (with_reducible repeat (first | apply Kd.R_alloc | apply Kd.R_drewN | apply Kd.R_drew)); exact HO_3.out⟩, ⟨by (with_reducible repeat (first | apply Kd.R_alloc | apply Kd.R_drewN | apply Kd.R_drew)); exact HO_6.out⟩, ⟨by (with_reducible repeat (first | apply Kd.R_alloc | apply Kd.R_drewN | apply Kd.R_drew)); exact HO_10.out⟩, ⟨by (with_reducible repeat (first | apply Kd.R_alloc | apply Kd.R_drewN | apply Kd.R_drew)); exact HO_13.out⟩, ⟨by (with_reducible repeat (first | apply Kd.R_alloc | apply Kd.R_drewN | apply Kd.R_drew)); exact HO_16.out⟩, ⟨by repeat (first | (with_reducible first | exact HB.out | apply below_alloc | apply pw_below_drewN | apply below_drew1) | exact HB.out)⟩⟩
                case round =>
                  clear H'
                  try clear c1
                  try clear c2
                  try clear p2
                  try clear c3
                  try clear c7
                  try clear c10
                  try clear c11
                  try clear c11b0
                  try clear c11b1
                  try clear c13
                  try clear c14
                  try clear c14b0
                  try clear c14b1
                  try clear c14b2
                  try clear c20
                  try clear c21
                  try clear c22
                  try clear c23
                  try clear c25
                  try clear c31
                  try clear p2
                  obtain ⟨x6_3, x19_3, rfl, HA, HK3, HO_3, HO_6, HO_10, HO_13, HO_16, HB⟩ := hrel
                  have hl6_3 := (Kd.R_reads' HO_6.out).1
                  rw [hl6_3] at HO_6
                  (try simp only [hl6_3])
                  (try simp only [hl6_3] at HO_3)
                  (try simp only [hl6_3] at HO_10)
                  (try simp only [hl6_3] at HO_13)
                  (try simp only [hl6_3] at HO_16)
                  cases gk with
                  | zero => exact absurd HA.out (by simp [shardlaw1_TextWords.l0])
                  | succ k3 =>
                    have H := HA.out
                    clear HA
                    simp only [shardlaw1_TextWords.l0] at H
                    by_cases c32 : x19_3 < (x6_3.length : Int)
                    · rw [if_pos c32] at H
                      have c32b0 : decide (x19_3 < (x6_3.length : Int)) = true := decide_eq_true c32
                      clear c32
                      by_cases c33 : 0 ≤ x19_3
                      · rw [if_pos c33] at H
                        have c33b0 : decide (0 ≤ x19_3) = true := decide_eq_true c33
                        clear c33
                        obtain ⟨y304, hy304⟩ : ∃ y_ : List (S45), y_ = (x6_3.set (x19_3 : Int).toNat (⟨(⟨#[115, 112, 111, 105, 108, 116]⟩ : ByteArray), false, (-7)⟩ : S45)) := ⟨_, rfl⟩
                        replace H : (shardlaw1_TextWords.l0 k3 a0 t274 y304 t286 t291 t296 (wrap64 (x19_3 + 1))) = some r := by first | (rw [hy304]; with_reducible exact H) | (have H2_ := (Option.bind_some _ _).symm.trans H; rw [hy304]; with_reducible exact H2_) | (have H2_ := (Option.bind_some _ _).symm.trans H; with_reducible exact H2_) | with_reducible exact H | (rw [hy304]; exact H) | exact H
                        have Ny304 := Aside0.mk hy304
                        clear hy304
                        have H' := Aside0.mk H
                        clear H
                        have p34 : 0 ≤ (x19_3 : Int) := of_decide_eq_true (by first | (with_reducible assumption) | assumption)
                        have q34 : (x19_3 : Int) < ((x6_3.length : Int) : Int) := of_decide_eq_true (by first | (with_reducible assumption) | assumption)
                        obtain ⟨go34, co34, eo34, gb34, gl34, cl34, HG34⟩ := Kd.R_form HO_6.out (by omega)
                        (first | cases eo34 | (injection eo34 with ea_ en_ ec_; (first | subst ea_ | (injection ea_ with ea_; subst ea_)); subst ec_; clear en_))
                        have GB34 := Aside0.mk gb34
                        have GG34 := Aside0.mk HG34
                        clear gb34 gl34 HG34
                        obtain ⟨ce34, hcl34, hM34, hcc34, hfr34⟩ := Kd.R_elem HO_6.out z45 (x19_3 : Int) p34 q34
                        obtain rfl := k45_openM hM34
                        have hx34_0 : wr.cell? ⟨go34, (x19_3 : Int).toNat * 3, none⟩ = some (.string ((rd_T45 x6_3 x19_3).f0)) := hcc34 0 _ rfl
                        have hx34_1 : wr.cell? ⟨go34, (x19_3 : Int).toNat * 3 + 1, none⟩ = some (.bool ((rd_T45 x6_3 x19_3).f1)) := hcc34 1 _ rfl
                        have hx34_2 : wr.cell? ⟨go34, (x19_3 : Int).toNat * 3 + 2, none⟩ = some (.int .i64 ((rd_T45 x6_3 x19_3).f2)) := hcc34 2 _ rfl
                        have hf34_0 : wr.frozen? ⟨go34, (x19_3 : Int).toNat * 3, none⟩ = false := hfr34 0
                        have hf34_1 : wr.frozen? ⟨go34, (x19_3 : Int).toNat * 3 + 1, none⟩ = false := hfr34 1
                        have hf34_2 : wr.frozen? ⟨go34, (x19_3 : Int).toNat * 3 + 2, none⟩ = false := hfr34 2
                        clear hcl34 hcc34 hfr34 hM34
                        replace p34 := eq_true p34
                        replace q34 := eq_true q34
                        have HX35 := Aside0.mk (show Kd.R k45 45 wr w.heap.size (fun k_ => some k_ ≠ (v289 : Value).ownBlock ∧ some k_ ≠ (v294 : Value).ownBlock) (.slice (some ⟨go34, 0, none⟩) x6_3.length co8) x6_3 from (by (with_reducible repeat (first | apply Kd.R_alloc | apply Kd.R_drewN | apply Kd.R_drew)); exact HO_6.out))
                        obtain ⟨ce35, hcl35, hM35, hcc35, hfr35⟩ := Kd.R_elem HX35.out z45 (x19_3 : Int) (of_decide_eq_true (by first | (with_reducible assumption) | assumption)) (by have h_ : (x19_3 : Int) < ((x6_3.length : Int) : Int) := of_decide_eq_true (by first | (with_reducible assumption) | assumption); first | exact h_ | (have e_ := (Kd.R_reads' HO_6.out).1; omega) | simpa using h_)
                        obtain rfl := k45_openM hM35
                        have HP35 := Kd.R_seg HX35.out (x19_3 : Int) (of_decide_eq_true (by first | (with_reducible assumption) | assumption)) (by have h_ : (x19_3 : Int) < ((x6_3.length : Int) : Int) := of_decide_eq_true (by first | (with_reducible assumption) | assumption); first | exact h_ | (have e_ := (Kd.R_reads' HO_6.out).1; omega) | simpa using h_) (seg := [.string (⟨#[115, 112, 111, 105, 108, 116]⟩ : ByteArray), .bool false, .int .i64 (-7)]) (j := 0) hcl35 hcc35 (show 3 ≤ 3 from by decide) (x' := (⟨(⟨#[115, 112, 111, 105, 108, 116]⟩ : ByteArray), false, (-7)⟩ : S45)) (k45_mkM _ _ _ (⟨(⟨#[115, 112, 111, 105, 108, 116]⟩ : ByteArray), false, (-7)⟩ : S45) ) (fun _ hk => hk)
                        have hx35_0 := hcc35 0 _ rfl
                        (try simp only [show (k45).sz = 3 from rfl, Nat.mul_one, Nat.add_zero] at hx35_0)
                        have hf35_0 := hfr35 0
                        (try simp only [show (k45).sz = 3 from rfl, Nat.mul_one, Nat.add_zero] at hf35_0)
                        have hx35_1 := hcc35 1 _ rfl
                        (try simp only [show (k45).sz = 3 from rfl, Nat.mul_one, Nat.add_zero] at hx35_1)
                        have hf35_1 := hfr35 1
                        (try simp only [show (k45).sz = 3 from rfl, Nat.mul_one, Nat.add_zero] at hf35_1)
                        have hx35_2 := hcc35 2 _ rfl
                        (try simp only [show (k45).sz = 3 from rfl, Nat.mul_one, Nat.add_zero] at hx35_2)
                        have hf35_2 := hfr35 2
                        (try simp only [show (k45).sz = 3 from rfl, Nat.mul_one, Nat.add_zero] at hf35_2)
                        clear hcl35 hcc35 hfr35 hM35
                        go_wp2_with (first | ((with_reducible refine gate_store (t := 45) (p := 97) rfl ?_); refine store_event (t := 45) (p := 97) (v := ?vo_w36) (w1 := (((wr.setCell ⟨go34, (x19_3 : Int).toNat * 3, none⟩ (.string (⟨#[115, 112, 111, 105, 108, 116]⟩ : ByteArray))).setCell ⟨go34, (x19_3 : Int).toNat * 3 + 1, none⟩ (.bool false)).setCell ⟨go34, (x19_3 : Int).toNat * 3 + 2, none⟩ (.int .i64 (-7)))) ?hg ?ho ?hn ?hr ?_; (case ho => rfl); (case hg => rfl); (case hn => rfl); (case hr => first | (go_simp; done) | (go_simp; rfl)); intro w36 hw; have hg : wr.grownBy w36 (some go34) := (by rw [hw]; exact HP35.2); have hp_ : Kd.R k45 45 w36 w.heap.size (fun k_ => some k_ ≠ (v289 : Value).ownBlock ∧ some k_ ≠ (v294 : Value).ownBlock) (.slice (some ⟨go34, 0, none⟩) x6_3.length co8) y304 := (by rw [hw, Ny304.out]; exact HP35.1); clear HP35; have n0_ := Aside0.mk (Kd.R_over' (v := (.slice (some ⟨go34, 0, none⟩) x6_3.length co8)) (by (with_reducible repeat (first | apply Kd.R_alloc | apply Kd.R_drewN | apply Kd.R_drew)); exact HO_3.out) (Kd.R_typed HO_6.out) (by decide) hg); have n1_ := Aside0.mk (hp_); have n2_ := Aside0.mk (Kd.R_after (v := (.slice (some ⟨go34, 0, none⟩) x6_3.length co8)) (v1 := (.slice (some ⟨go34, 0, none⟩) x6_3.length co8)) (ok := (fun k_ => some k_ ≠ (v294 : Value).ownBlock)) (by (with_reducible repeat (first | apply Kd.R_alloc | apply Kd.R_drewN | apply Kd.R_drew)); exact Kd.R_mono HO_10.out (fun _ hk => ⟨hk.2, hk.1⟩)) hg (.inl rfl)); have n3_ := Aside0.mk (Kd.R_after (v := (.slice (some ⟨go34, 0, none⟩) x6_3.length co8)) (v1 := (.slice (some ⟨go34, 0, none⟩) x6_3.length co8)) (ok := (fun k_ => some k_ ≠ (v289 : Value).ownBlock)) (by (with_reducible repeat (first | apply Kd.R_alloc | apply Kd.R_drewN | apply Kd.R_drew)); exact Kd.R_mono HO_13.out (fun _ hk => ⟨hk.2, hk.1⟩)) hg (.inl rfl)); have n4_ := Aside0.mk (Kd.R_over' (v := (.slice (some ⟨go34, 0, none⟩) x6_3.length co8)) (by (with_reducible repeat (first | apply Kd.R_alloc | apply Kd.R_drewN | apply Kd.R_drew)); exact HO_16.out) (Kd.R_typed HO_6.out) (by decide) hg); have n5_ := Aside0.mk ((by rw [hw]; exact below_set (below_set (below_set (HB.out) GB34.out) GB34.out) GB34.out : Below w.heap.size w w36)); clear HO_3; clear HO_6; clear HO_10; clear HO_13; clear HO_16; clear HB; have HO_3 := n0_; have HO_6 := n1_; have HO_10 := n2_; have HO_13 := n3_; have HO_16 := n4_; have HB := n5_; clear n0_ n1_ n2_ n3_ n4_ n5_; clear hg hw hp_))
                        (try simp only [← hl6_3])
                        go_roundg k3
                        case measure => have := HJ4.out; have := HJ17.out; have := HK3.out; omega
                        case rel => exact ⟨(y304), (wrap64 (x19_3 + 1)), (by first | rfl | (simp; done) | (simp [*]; done)), H', ⟨by have := HJ4.out; have := HJ17.out; have := HK3.out; omega⟩, ⟨by (try simp only [hl6_3]); (with_reducible repeat (first | apply Kd.R_alloc | apply Kd.R_drewN | apply Kd.R_drew)); exact HO_3.out⟩, ⟨by (try simp only [hl6_3]); (with_reducible repeat (first | apply Kd.R_alloc | apply Kd.R_drewN | apply Kd.R_drew)); exact HO_6.out⟩, ⟨by (try simp only [hl6_3]); (with_reducible repeat (first | apply Kd.R_alloc | apply Kd.R_drewN | apply Kd.R_drew)); exact Kd.R_mono HO_10.out (fun _ hk => ⟨hk.2, hk.1⟩)⟩, ⟨by (try simp only [hl6_3]); (with_reducible repeat (first | apply Kd.R_alloc | apply Kd.R_drewN | apply Kd.R_drew)); exact Kd.R_mono HO_13.out (fun _ hk => ⟨hk.2, hk.1⟩)⟩, ⟨by (try simp only [hl6_3]); (with_reducible repeat (first | apply Kd.R_alloc | apply Kd.R_drewN | apply Kd.R_drew)); exact HO_16.out⟩, ⟨by repeat (first | (with_reducible first | exact HB.out | apply below_alloc | apply pw_below_drewN | apply below_drew1) | exact HB.out)⟩⟩
                      · rw [if_neg c33] at H
                        exact absurd H (by simp)
                    · rw [if_neg c32] at H
                      have c32b0 : decide (x19_3 < (x6_3.length : Int)) = false := decide_eq_false c32
                      clear c32
                      have H' := Aside0.mk H
                      clear H
                      go_wp2
                      go_loopg [6, 20] k3 (fun kq v6 v20 w' => ∃ (x6_4 : List (S45)) (x20_4 : Int), v20 = .int .i64 x20_4 ∧ Aside0 (shardlaw1_TextWords.l1 kq a0 t274 x6_4 t286 t291 t296 x20_4 = some r) ∧ Aside0 (kq ≤ k3) ∧ Aside0 (Kd.R k75 75 w' w.heap.size (fun k_ => some k_ ≠ (v299 : Value).ownBlock) (.slice Ao9 t274.length co9) t274) ∧ Aside0 (Kd.R k45 45 w' w.heap.size (fun k_ => some k_ ≠ (v289 : Value).ownBlock ∧ some k_ ≠ (v294 : Value).ownBlock) v6 x6_4) ∧ Aside0 (Kd.R k45 45 w' w.heap.size (fun k_ => some k_ ≠ (v6 : Value).ownBlock ∧ some k_ ≠ (v294 : Value).ownBlock) v289 t286) ∧ Aside0 (Kd.R k45 45 w' w.heap.size (fun k_ => some k_ ≠ (v6 : Value).ownBlock ∧ some k_ ≠ (v289 : Value).ownBlock) v294 t291) ∧ Aside0 (Kd.R k75 75 w' w.heap.size (fun k_ => some k_ ≠ ((.slice Ao9 t274.length co9) : Value).ownBlock) v299 t296) ∧ Aside0 (Below w.heap.size w w'))
                      case atStart => exact ⟨(x6_3), (0), (by first | rfl | (simp; done) | (simp [*]; done)), H', ⟨Nat.le_refl _⟩, ⟨by (try simp only [hl6_3]); (with_reducible repeat (first | apply Kd.R_alloc | apply Kd.R_drewN | apply Kd.R_drew)); exact HO_3.out⟩, ⟨by (try simp only [hl6_3]); (with_reducible repeat (first | apply Kd.R_alloc | apply Kd.R_drewN | apply Kd.R_drew)); exact HO_6.out⟩, ⟨by (try simp only [hl6_3]); (with_reducible repeat (first | apply Kd.R_alloc | apply Kd.R_drewN | apply Kd.R_drew)); exact HO_10.out⟩, ⟨by (try simp only [hl6_3]); (with_reducible repeat (first | apply Kd.R_alloc | apply Kd.R_drewN | apply Kd.R_drew)); exact HO_13.out⟩, ⟨by (try simp only [hl6_3]); (with_reducible repeat (first | apply Kd.R_alloc | apply Kd.R_drewN | apply Kd.R_drew)); exact HO_16.out⟩, ⟨by repeat (first | (with_reducible first | exact HB.out | apply below_alloc | apply pw_below_drewN | apply below_drew1) | exact HB.out)⟩⟩
                      case round =>
                        clear H'
                        try clear c1
                        try clear c2
                        try clear p2
                        try clear c3
                        try clear p3
                        try clear q3
                        try clear hx3
                        try clear hf3
                        try clear p6
                        try clear c7
                        try clear c10
                        try clear c11
                        try clear c11b0
                        try clear c11b1
                        try clear c13
                        try clear c14
                        try clear c14b0
                        try clear c14b1
                        try clear c14b2
                        try clear c20
                        try clear c21
                        try clear c22
                        try clear c23
                        try clear c25
                        try clear c31
                        try clear c32
                        try clear c32b0
                        try clear c33
                        try clear c33b0
                        try clear c34
                        try clear p34
                        try clear q34
                        try clear hx34
                        try clear hf34
                        try clear c35
                        try clear hx35
                        try clear hf35
                        try clear hx34_0
                        try clear hx34_1
                        try clear hx34_2
                        try clear hx35_0
                        try clear hx35_1
                        try clear hx35_2
                        try clear p2
                        try clear p34
                        try clear q34
                        obtain ⟨x6_4, x20_4, rfl, HA, HK4, HO_3, HO_6, HO_10, HO_13, HO_16, HB⟩ := hrel
                        cases gk with
                        | zero => exact absurd HA.out (by simp [shardlaw1_TextWords.l1])
                        | succ k4 =>
                          have H := HA.out
                          clear HA
                          simp only [shardlaw1_TextWords.l1] at H
                          by_cases c37 : x20_4 < 40
                          · rw [if_pos c37] at H
                            have c37b0 : decide (x20_4 < 40) = true := decide_eq_true c37
                            clear c37
                            by_cases c38 : x6_4.length < 4398046511104
                            · rw [if_pos c38] at H
                              have LMc38 := Aside0.mk c38
                              clear c38
                              obtain ⟨y305, hy305⟩ : ∃ y_ : List (S45), y_ = (x6_4 ++ [(⟨(⟨#[109, 111, 114, 101]⟩ : ByteArray), false, 0⟩ : S45)]) := ⟨_, rfl⟩
                              replace H : (shardlaw1_TextWords.l1 k4 a0 t274 y305 t286 t291 t296 (wrap64 (x20_4 + 1))) = some r := by first | (rw [hy305]; with_reducible exact H) | (have H2_ := (Option.bind_some _ _).symm.trans H; rw [hy305]; with_reducible exact H2_) | (have H2_ := (Option.bind_some _ _).symm.trans H; with_reducible exact H2_) | with_reducible exact H | (rw [hy305]; exact H) | exact H
                              have Ny305 := Aside0.mk hy305
                              clear hy305
                              have H' := Aside0.mk H
                              clear H
                              go_wp2_with (first | ((with_reducible refine gate_builtin (b := .append) (xs := #[.tmp 102, .tmp 104]) rfl ?_); (try (refine gate_guard (by rfl) ?_; dsimp only)); at_builtin; refine Kd.R_append k45 (w0 := w) w.heap.size rfl (.tmp 102) (.tmp 104) 40 45 (.agg #[(.string ⟨#[]⟩), (.bool false), (.int .i64 0)]) 32 rfl Tryd.underlying40 info45 rfl (by decide) (by omega) u6 x6_4 (⟨(⟨#[109, 111, 114, 101]⟩ : ByteArray), false, 0⟩ : S45) [.string (⟨#[109, 111, 114, 101]⟩ : ByteArray), .bool false, .int .i64 0] (fun k_ => some k_ ≠ (v289 : Value).ownBlock ∧ some k_ ≠ (v294 : Value).ownBlock) (fun _ => False) rfl rfl ?aP (fun _ hk => hk.elim) ?aF ?aO ?aB ?aS ?aL ?_; (case aP => exact k45_mkM _ _ _ (⟨(⟨#[109, 111, 114, 101]⟩ : ByteArray), false, 0⟩ : S45)); (case aB => exact (by repeat (first | (with_reducible first | exact HB.out | apply below_alloc | apply pw_below_drewN | apply below_drew1) | exact HB.out))); (case aF => exact (fun k_ hk => ⟨Kd.fresh' (Kd.R_lt (by (with_reducible repeat (first | apply Kd.R_alloc | apply Kd.R_drewN | apply Kd.R_drew)); exact HO_10.out)) k_ hk, Kd.fresh' (Kd.R_lt (by (with_reducible repeat (first | apply Kd.R_alloc | apply Kd.R_drewN | apply Kd.R_drew)); exact HO_13.out)) k_ hk⟩)); (case aO => exact (by (with_reducible repeat (first | apply Kd.R_alloc | apply Kd.R_drewN | apply Kd.R_drew)); exact HO_6.out)); (case aS => exact (below_size (by repeat (first | (with_reducible first | exact HB.out | apply below_alloc | apply pw_below_drewN | apply below_drew1) | exact HB.out)))); (case aL => have := LMc38.out; omega); intro v306 w39 ho hb hg hat; rw [← Ny305.out] at ho; have n0_ := Aside0.mk (Kd.R_over' (by (with_reducible repeat (first | apply Kd.R_alloc | apply Kd.R_drewN | apply Kd.R_drew)); exact HO_3.out) (Kd.R_typed (by (with_reducible repeat (first | apply Kd.R_alloc | apply Kd.R_drewN | apply Kd.R_drew)); exact HO_6.out)) (by decide) hg); have n1_ := Aside0.mk (Kd.R_after (ok := (fun k_ => some k_ ≠ (v294 : Value).ownBlock)) (by (with_reducible repeat (first | apply Kd.R_alloc | apply Kd.R_drewN | apply Kd.R_drew)); exact Kd.R_mono HO_10.out (fun _ hk => ⟨hk.2, hk.1⟩)) hg hat); have n2_ := Aside0.mk (Kd.R_after (ok := (fun k_ => some k_ ≠ (v289 : Value).ownBlock)) (by (with_reducible repeat (first | apply Kd.R_alloc | apply Kd.R_drewN | apply Kd.R_drew)); exact Kd.R_mono HO_13.out (fun _ hk => ⟨hk.2, hk.1⟩)) hg hat); have n3_ := Aside0.mk (Kd.R_over' (by (with_reducible repeat (first | apply Kd.R_alloc | apply Kd.R_drewN | apply Kd.R_drew)); exact HO_16.out) (Kd.R_typed (by (with_reducible repeat (first | apply Kd.R_alloc | apply Kd.R_drewN | apply Kd.R_drew)); exact HO_6.out)) (by decide) hg); have n4_ := Aside0.mk (hb); have n5_ := Aside0.mk (ho); clear HO_3; clear HO_10; clear HO_13; clear HO_16; clear HB; clear HO_6; have HO_3 := n0_; have HO_10 := n1_; have HO_13 := n2_; have HO_16 := n3_; have HB := n4_; have HO307 := n5_; clear n0_ n1_ n2_ n3_ n4_ n5_; clear ho hb hg hat))
                              go_roundg k4
                              case measure => have := HJ4.out; have := HJ17.out; have := HK3.out; have := HK4.out; omega
                              case rel => exact ⟨(y305), (wrap64 (x20_4 + 1)), (by first | rfl | (simp; done) | (simp [*]; done)), H', ⟨by have := HJ4.out; have := HJ17.out; have := HK3.out; have := HK4.out; omega⟩, ⟨by (try simp only [hl6_3]); (with_reducible repeat (first | apply Kd.R_alloc | apply Kd.R_drewN | apply Kd.R_drew)); exact HO_3.out⟩, ⟨by (try simp only [hl6_3]); (with_reducible repeat (first | apply Kd.R_alloc | apply Kd.R_drewN | apply Kd.R_drew)); exact HO307.out⟩, ⟨by (try simp only [hl6_3]); (with_reducible repeat (first | apply Kd.R_alloc | apply Kd.R_drewN | apply Kd.R_drew)); exact Kd.R_mono HO_10.out (fun _ hk => ⟨hk.2, hk.1⟩)⟩, ⟨by (try simp only [hl6_3]); (with_reducible repeat (first | apply Kd.R_alloc | apply Kd.R_drewN | apply Kd.R_drew)); exact Kd.R_mono HO_13.out (fun _ hk => ⟨hk.2, hk.1⟩)⟩, ⟨by (try simp only [hl6_3]); (with_reducible repeat (first | apply Kd.R_alloc | apply Kd.R_drewN | apply Kd.R_drew)); exact HO_16.out⟩, ⟨by repeat (first | (with_reducible first | exact HB.out | apply below_alloc | apply pw_below_drewN | apply below_drew1) | exact HB.out)⟩⟩
                            · rw [if_neg c38] at H
                              exact absurd H (by simp)
                          · rw [if_neg c37] at H
                            have c37b0 : decide (x20_4 < 40) = false := decide_eq_false c37
                            clear c37
                            have HC40 := Aside0.mk H
                            clear H
                            go_upto_region 20 with (fail)
                            go_cut [9] (fun v9 wc => ∃ (kq : Nat) (x9_39 : Bool), v9 = .bool x9_39 ∧ Aside0 (shardlaw1_TextWords.j4 kq a0 t274 x6_4 x9_39 t286 t291 t296 = some r) ∧ Aside0 (kq ≤ k4) ∧ Aside0 (Kd.R k75 75 wc w.heap.size (fun k_ => some k_ ≠ (v299 : Value).ownBlock) (.slice Ao9 t274.length co9) t274) ∧ Aside0 (Kd.R k45 45 wc w.heap.size (fun k_ => some k_ ≠ (v289 : Value).ownBlock ∧ some k_ ≠ (v294 : Value).ownBlock) u6 x6_4) ∧ Aside0 (Kd.R k45 45 wc w.heap.size (fun k_ => some k_ ≠ (u6 : Value).ownBlock ∧ some k_ ≠ (v294 : Value).ownBlock) v289 t286) ∧ Aside0 (Kd.R k45 45 wc w.heap.size (fun k_ => some k_ ≠ (u6 : Value).ownBlock ∧ some k_ ≠ (v289 : Value).ownBlock) v294 t291) ∧ Aside0 (Kd.R k75 75 wc w.heap.size (fun k_ => some k_ ≠ ((.slice Ao9 t274.length co9) : Value).ownBlock) v299 t296) ∧ Aside0 (Below w.heap.size w wc))
                            case first =>
                              have H := HC40.out
                              clear HC40
                              replace H := Option.bind_eq_some_iff.mp H
                              obtain ⟨t308, A410, H⟩ := H
                              replace H : (if t308 = true then ((shardlaw1_sameWords.f k4 t286 t296).bind fun t309 => (shardlaw1_TextWords.j4 k4 a0 t274 x6_4 t309 t286 t291 t296)) else (shardlaw1_TextWords.j4 k4 a0 t274 x6_4 false t286 t291 t296)) = some r := H
                              have A41 := Aside0.mk A410
                              clear A410
                              by_cases c42 : t308 = true
                              · subst c42
                                have H1 : ((shardlaw1_sameWords.f k4 t286 t296).bind fun t309 => (shardlaw1_TextWords.j4 k4 a0 t274 x6_4 t309 t286 t291 t296)) = some r := by rw [if_pos rfl] at H; exact H
                                clear H
                                have H := H1
                                clear H1
                                replace H := Option.bind_eq_some_iff.mp H
                                obtain ⟨t309, A430, H⟩ := H
                                replace H : (shardlaw1_TextWords.j4 k4 a0 t274 x6_4 t309 t286 t291 t296) = some r := H
                                have A43 := Aside0.mk A430
                                clear A430
                                have H' := Aside0.mk H
                                clear H
                                obtain ⟨Ao44, co44, eo44⟩ := Kd.R_slice HO_13.out
                                subst eo44
                                go_wp2_with (first | ((with_reducible refine gate_callee (f := 22) rfl ?_); refine goesL_ (some 108) rfl rfl Tryd.func22 (by kernel_rfl) rfl #[.slice Ao44 t291.length co44, .slice Ao9 t274.length co9] rfl (by (try simp only [List.map_toArray, List.map_cons, List.map_nil]); first | done | rfl | (simp only [List.length_drop, List.length_take]; rfl)) ?_; (with_reducible refine (shardlaw1_sameWords.calls k4 _ _ t291 _ _ t274 true _ ?side1 ?side2 ?side3 ?side4 A41.out).mono ?_); (case side1 => repeat (first | exact (Kd.R_reads' HO_13.out).2.2 | (with_reducible refine Kd.C_alloc ?_ _) | (with_reducible refine Kd.C_drewN ?_ _) | (with_reducible refine Kd.C_drew ?_))); (case side2 => exact (Kd.R_reads' HO_13.out).2.1); (case side3 => repeat (first | exact (Kd.R_reads' HO_3.out).2.2 | (with_reducible refine Kd.C_alloc ?_ _) | (with_reducible refine Kd.C_drewN ?_ _) | (with_reducible refine Kd.C_drew ?_))); (case side4 => exact (Kd.R_reads' HO_3.out).2.1); rintro e w' ⟨rfl, ⟨nd, rfl⟩⟩; refine ⟨_, rfl, ?_⟩; obtain ⟨Ao45, co45, eo45⟩ := Kd.R_slice HO_10.out; subst eo45; obtain ⟨Ao46, co46, eo46⟩ := Kd.R_slice HO_16.out; subst eo46) | (go_at_call 22; (with_reducible refine (shardlaw1_sameWords.calls k4 _ _ t286 _ _ t296 t309 _ ?side1 ?side2 ?side3 ?side4 A43.out).mono ?_); (case side1 => repeat (first | exact (Kd.R_reads' HO_10.out).2.2 | (with_reducible refine Kd.C_alloc ?_ _) | (with_reducible refine Kd.C_drewN ?_ _) | (with_reducible refine Kd.C_drew ?_))); (case side2 => exact (Kd.R_reads' HO_10.out).2.1); (case side3 => repeat (first | exact (Kd.R_reads' HO_16.out).2.2 | (with_reducible refine Kd.C_alloc ?_ _) | (with_reducible refine Kd.C_drewN ?_ _) | (with_reducible refine Kd.C_drew ?_))); (case side4 => exact (Kd.R_reads' HO_16.out).2.1); rintro e w' ⟨rfl, ⟨nd, rfl⟩⟩))
                                go_meet
                                case rel => exact ⟨_, (t309), (by first | rfl | (simp; done) | (simp [*]; done)), H', ⟨by have := HJ4.out; have := HJ17.out; have := HK3.out; have := HK4.out; first | omega | exact Nat.le_refl _⟩, ⟨by (try simp only [hl6_3]); (with_reducible repeat (first | apply Kd.R_alloc | apply Kd.R_drewN | apply Kd.R_drew)); exact HO_3.out⟩, ⟨by (try simp only [hl6_3]); (with_reducible repeat (first | apply Kd.R_alloc | apply Kd.R_drewN | apply Kd.R_drew)); exact HO_6.out⟩, ⟨by (try simp only [hl6_3]); (with_reducible repeat (first | apply Kd.R_alloc | apply Kd.R_drewN | apply Kd.R_drew)); exact HO_10.out⟩, ⟨by (try simp only [hl6_3]); (with_reducible repeat (first | apply Kd.R_alloc | apply Kd.R_drewN | apply Kd.R_drew)); exact HO_13.out⟩, ⟨by (try simp only [hl6_3]); (with_reducible repeat (first | apply Kd.R_alloc | apply Kd.R_drewN | apply Kd.R_drew)); exact HO_16.out⟩, ⟨by repeat (first | (with_reducible first | exact HB.out | apply below_alloc | apply pw_below_drewN | apply below_drew1) | exact HB.out)⟩⟩
                              · replace c42 := Bool.eq_false_iff.mpr c42
                                subst c42
                                have H1 : (shardlaw1_TextWords.j4 k4 a0 t274 x6_4 false t286 t291 t296) = some r := by rw [if_neg (show ¬ (false = true) by decide)] at H; exact H
                                clear H
                                have H := H1
                                clear H1
                                have H' := Aside0.mk H
                                clear H
                                obtain ⟨Ao47, co47, eo47⟩ := Kd.R_slice HO_13.out
                                subst eo47
                                go_wp2_with (first | ((with_reducible refine gate_callee (f := 22) rfl ?_); refine goesL_ (some 108) rfl rfl Tryd.func22 (by kernel_rfl) rfl #[.slice Ao47 t291.length co47, .slice Ao9 t274.length co9] rfl (by (try simp only [List.map_toArray, List.map_cons, List.map_nil]); first | done | rfl | (simp only [List.length_drop, List.length_take]; rfl)) ?_; (with_reducible refine (shardlaw1_sameWords.calls k4 _ _ t291 _ _ t274 false _ ?side1 ?side2 ?side3 ?side4 A41.out).mono ?_); (case side1 => repeat (first | exact (Kd.R_reads' HO_13.out).2.2 | (with_reducible refine Kd.C_alloc ?_ _) | (with_reducible refine Kd.C_drewN ?_ _) | (with_reducible refine Kd.C_drew ?_))); (case side2 => exact (Kd.R_reads' HO_13.out).2.1); (case side3 => repeat (first | exact (Kd.R_reads' HO_3.out).2.2 | (with_reducible refine Kd.C_alloc ?_ _) | (with_reducible refine Kd.C_drewN ?_ _) | (with_reducible refine Kd.C_drew ?_))); (case side4 => exact (Kd.R_reads' HO_3.out).2.1); rintro e w' ⟨rfl, ⟨nd, rfl⟩⟩; refine ⟨_, rfl, ?_⟩))
                                go_meet
                                case rel => exact ⟨_, (false), (by first | rfl | (simp; done) | (simp [*]; done)), H', ⟨by have := HJ4.out; have := HJ17.out; have := HK3.out; have := HK4.out; first | omega | exact Nat.le_refl _⟩, ⟨by (try simp only [hl6_3]); (with_reducible repeat (first | apply Kd.R_alloc | apply Kd.R_drewN | apply Kd.R_drew)); exact HO_3.out⟩, ⟨by (try simp only [hl6_3]); (with_reducible repeat (first | apply Kd.R_alloc | apply Kd.R_drewN | apply Kd.R_drew)); exact HO_6.out⟩, ⟨by (try simp only [hl6_3]); (with_reducible repeat (first | apply Kd.R_alloc | apply Kd.R_drewN | apply Kd.R_drew)); exact HO_10.out⟩, ⟨by (try simp only [hl6_3]); (with_reducible repeat (first | apply Kd.R_alloc | apply Kd.R_drewN | apply Kd.R_drew)); exact HO_13.out⟩, ⟨by (try simp only [hl6_3]); (with_reducible repeat (first | apply Kd.R_alloc | apply Kd.R_drewN | apply Kd.R_drew)); exact HO_16.out⟩, ⟨by repeat (first | (with_reducible first | exact HB.out | apply below_alloc | apply pw_below_drewN | apply below_drew1) | exact HB.out)⟩⟩
                            case rest =>
                              clear HC40
                              try clear c1
                              try clear c2
                              try clear p2
                              try clear c3
                              try clear p3
                              try clear q3
                              try clear hx3
                              try clear hf3
                              try clear c4
                              try clear p6
                              try clear c7
                              try clear c10
                              try clear c11
                              try clear c11b0
                              try clear c11b1
                              try clear c13
                              try clear c14
                              try clear c14b0
                              try clear c14b1
                              try clear c14b2
                              try clear c20
                              try clear c21
                              try clear c22
                              try clear c23
                              try clear c25
                              try clear c31
                              try clear c32
                              try clear c32b0
                              try clear c33
                              try clear c33b0
                              try clear c34
                              try clear p34
                              try clear q34
                              try clear hx34
                              try clear hf34
                              try clear c35
                              try clear hx35
                              try clear hf35
                              try clear c37
                              try clear c37b0
                              try clear c38
                              try clear c42
                              try clear hx34_0
                              try clear hx34_1
                              try clear hx34_2
                              try clear hx35_0
                              try clear hx35_1
                              try clear hx35_2
                              try clear p2
                              try clear p3
                              try clear p34
                              try clear p6
                              try clear q3
                              try clear q34
                              obtain ⟨kq, x9_39, rfl, HA, HJ39, HO_3, HO_6, HO_10, HO_13, HO_16, HB⟩ := hcut
                              cases kq with
                              | zero => exact absurd HA.out (by simp [shardlaw1_TextWords.j4])
                              | succ kj39 =>
                                have H := HA.out
                                clear HA
                                simp only [shardlaw1_TextWords.j4] at H
                                have H' := Aside0.mk H
                                clear H
                                go_wp2
                                go_loopg [21] kj39 (fun kq v21 w' => ∃ (x13_6 : List (S45)) (x21_6 : Int), v21 = .int .i64 x21_6 ∧ Aside0 (shardlaw1_TextWords.l2 kq a0 t274 x6_4 x9_39 t286 x13_6 t296 x21_6 = some r) ∧ Aside0 (kq ≤ kj39) ∧ Aside0 (Kd.R k75 75 w' w.heap.size (fun k_ => some k_ ≠ (v299 : Value).ownBlock) (.slice Ao9 t274.length co9) t274) ∧ Aside0 (Kd.R k45 45 w' w.heap.size (fun k_ => some k_ ≠ (v289 : Value).ownBlock ∧ some k_ ≠ (v294 : Value).ownBlock) u6 x6_4) ∧ Aside0 (Kd.R k45 45 w' w.heap.size (fun k_ => some k_ ≠ (u6 : Value).ownBlock ∧ some k_ ≠ (v294 : Value).ownBlock) v289 t286) ∧ Aside0 (Kd.R k45 45 w' w.heap.size (fun k_ => some k_ ≠ (u6 : Value).ownBlock ∧ some k_ ≠ (v289 : Value).ownBlock) v294 x13_6) ∧ Aside0 (Kd.R k75 75 w' w.heap.size (fun k_ => some k_ ≠ ((.slice Ao9 t274.length co9) : Value).ownBlock) v299 t296) ∧ Aside0 (Below w.heap.size w w'))
                                case atStart => exact ⟨(t291), (0), (by first | rfl | (simp; done) | (simp [*]; done)), H', ⟨Nat.le_refl _⟩, ⟨by (try simp only [hl6_3]); (with_reducible repeat (first | apply Kd.R_alloc | apply Kd.R_drewN | apply Kd.R_drew)); exact HO_3.out⟩, ⟨by (try simp only [hl6_3]); (with_reducible repeat (first | apply Kd.R_alloc | apply Kd.R_drewN | apply Kd.R_drew)); exact HO_6.out⟩, ⟨by (try simp only [hl6_3]); (with_reducible repeat (first | apply Kd.R_alloc | apply Kd.R_drewN | apply Kd.R_drew)); exact HO_10.out⟩, ⟨by (try simp only [hl6_3]); (with_reducible repeat (first | apply Kd.R_alloc | apply Kd.R_drewN | apply Kd.R_drew)); exact HO_13.out⟩, ⟨by (try simp only [hl6_3]); (with_reducible repeat (first | apply Kd.R_alloc | apply Kd.R_drewN | apply Kd.R_drew)); exact HO_16.out⟩, ⟨by repeat (first | (with_reducible first | exact HB.out | apply below_alloc | apply pw_below_drewN | apply below_drew1) | exact HB.out)⟩⟩
                                case round =>
                                  clear H'
                                  try clear c1
                                  try clear c2
                                  try clear p2
                                  try clear c3
                                  try clear p3
                                  try clear q3
                                  try clear hx3
                                  try clear hf3
                                  try clear c4
                                  try clear p6
                                  try clear c7
                                  try clear c10
                                  try clear c11
                                  try clear c11b0
                                  try clear c11b1
                                  try clear c13
                                  try clear c14
                                  try clear c14b0
                                  try clear c14b1
                                  try clear c14b2
                                  try clear c20
                                  try clear c21
                                  try clear c22
                                  try clear c23
                                  try clear c25
                                  try clear c31
                                  try clear c32
                                  try clear c32b0
                                  try clear c33
                                  try clear c33b0
                                  try clear c34
                                  try clear p34
                                  try clear q34
                                  try clear hx34
                                  try clear hf34
                                  try clear c35
                                  try clear hx35
                                  try clear hf35
                                  try clear c37
                                  try clear c37b0
                                  try clear c38
                                  try clear c42
                                  try clear hx34_0
                                  try clear hx34_1
                                  try clear hx34_2
                                  try clear hx35_0
                                  try clear hx35_1
                                  try clear hx35_2
                                  try clear p2
                                  try clear p3
                                  try clear p34
                                  try clear p6
                                  try clear q3
                                  try clear q34
                                  obtain ⟨x13_6, x21_6, rfl, HA, HK6, HO_3, HO_6, HO_10, HO_13, HO_16, HB⟩ := hrel
                                  cases gk with
                                  | zero => exact absurd HA.out (by simp [shardlaw1_TextWords.l2])
                                  | succ k6 =>
                                    have H := HA.out
                                    clear HA
                                    simp only [shardlaw1_TextWords.l2] at H
                                    by_cases c48 : x21_6 < (x13_6.length : Int)
                                    · rw [if_pos c48] at H
                                      have c48b0 : decide (x21_6 < (x13_6.length : Int)) = true := decide_eq_true c48
                                      clear c48
                                      by_cases c49 : 0 ≤ x21_6
                                      · rw [if_pos c49] at H
                                        have c49b0 : decide (0 ≤ x21_6) = true := decide_eq_true c49
                                        clear c49
                                        obtain ⟨y310, hy310⟩ : ∃ y_ : List (S45), y_ = (x13_6.set (x21_6 : Int).toNat (⟨(⟨#[115, 112, 111, 105, 108, 116, 32, 116, 111, 111]⟩ : ByteArray), false, 0⟩ : S45)) := ⟨_, rfl⟩
                                        replace H : (shardlaw1_TextWords.l2 k6 a0 t274 x6_4 x9_39 t286 y310 t296 (wrap64 (x21_6 + 1))) = some r := by first | (rw [hy310]; with_reducible exact H) | (have H2_ := (Option.bind_some _ _).symm.trans H; rw [hy310]; with_reducible exact H2_) | (have H2_ := (Option.bind_some _ _).symm.trans H; with_reducible exact H2_) | with_reducible exact H | (rw [hy310]; exact H) | exact H
                                        have Ny310 := Aside0.mk hy310
                                        clear hy310
                                        have H' := Aside0.mk H
                                        clear H
                                        obtain ⟨Ao51, co51, eo51⟩ := Kd.R_slice HO_13.out
                                        subst eo51
                                        have p50 : 0 ≤ (x21_6 : Int) := of_decide_eq_true (by first | (with_reducible assumption) | assumption)
                                        have q50 : (x21_6 : Int) < ((x13_6.length : Int) : Int) := of_decide_eq_true (by first | (with_reducible assumption) | assumption)
                                        obtain ⟨go50, co50, eo50, gb50, gl50, cl50, HG50⟩ := Kd.R_form HO_13.out (by omega)
                                        (first | cases eo50 | (injection eo50 with ea_ en_ ec_; (first | subst ea_ | (injection ea_ with ea_; subst ea_)); subst ec_; clear en_))
                                        have GB50 := Aside0.mk gb50
                                        have GG50 := Aside0.mk HG50
                                        clear gb50 gl50 HG50
                                        obtain ⟨ce50, hcl50, hM50, hcc50, hfr50⟩ := Kd.R_elem HO_13.out z45 (x21_6 : Int) p50 q50
                                        obtain rfl := k45_openM hM50
                                        have hx50_0 : wr.cell? ⟨go50, (x21_6 : Int).toNat * 3, none⟩ = some (.string ((rd_T45 x13_6 x21_6).f0)) := hcc50 0 _ rfl
                                        have hx50_1 : wr.cell? ⟨go50, (x21_6 : Int).toNat * 3 + 1, none⟩ = some (.bool ((rd_T45 x13_6 x21_6).f1)) := hcc50 1 _ rfl
                                        have hx50_2 : wr.cell? ⟨go50, (x21_6 : Int).toNat * 3 + 2, none⟩ = some (.int .i64 ((rd_T45 x13_6 x21_6).f2)) := hcc50 2 _ rfl
                                        have hf50_0 : wr.frozen? ⟨go50, (x21_6 : Int).toNat * 3, none⟩ = false := hfr50 0
                                        have hf50_1 : wr.frozen? ⟨go50, (x21_6 : Int).toNat * 3 + 1, none⟩ = false := hfr50 1
                                        have hf50_2 : wr.frozen? ⟨go50, (x21_6 : Int).toNat * 3 + 2, none⟩ = false := hfr50 2
                                        clear hcl50 hcc50 hfr50 hM50
                                        replace p50 := eq_true p50
                                        replace q50 := eq_true q50
                                        have HX52 := Aside0.mk (show Kd.R k45 45 wr w.heap.size (fun k_ => some k_ ≠ (u6 : Value).ownBlock ∧ some k_ ≠ (v289 : Value).ownBlock) (.slice (some ⟨go50, 0, none⟩) x13_6.length co51) x13_6 from (by (with_reducible repeat (first | apply Kd.R_alloc | apply Kd.R_drewN | apply Kd.R_drew)); exact HO_13.out))
                                        obtain ⟨ce52, hcl52, hM52, hcc52, hfr52⟩ := Kd.R_elem HX52.out z45 (x21_6 : Int) (of_decide_eq_true (by first | (with_reducible assumption) | assumption)) (by have h_ : (x21_6 : Int) < ((x13_6.length : Int) : Int) := of_decide_eq_true (by first | (with_reducible assumption) | assumption); first | exact h_ | (have e_ := (Kd.R_reads' HO_13.out).1; omega) | simpa using h_)
                                        obtain rfl := k45_openM hM52
                                        have HP52 := Kd.R_seg HX52.out (x21_6 : Int) (of_decide_eq_true (by first | (with_reducible assumption) | assumption)) (by have h_ : (x21_6 : Int) < ((x13_6.length : Int) : Int) := of_decide_eq_true (by first | (with_reducible assumption) | assumption); first | exact h_ | (have e_ := (Kd.R_reads' HO_13.out).1; omega) | simpa using h_) (seg := [.string (⟨#[115, 112, 111, 105, 108, 116, 32, 116, 111, 111]⟩ : ByteArray), .bool false, .int .i64 0]) (j := 0) hcl52 hcc52 (show 3 ≤ 3 from by decide) (x' := (⟨(⟨#[115, 112, 111, 105, 108, 116, 32, 116, 111, 111]⟩ : ByteArray), false, 0⟩ : S45)) (k45_mkM _ _ _ (⟨(⟨#[115, 112, 111, 105, 108, 116, 32, 116, 111, 111]⟩ : ByteArray), false, 0⟩ : S45) ) (fun _ hk => hk)
                                        have hx52_0 := hcc52 0 _ rfl
                                        (try simp only [show (k45).sz = 3 from rfl, Nat.mul_one, Nat.add_zero] at hx52_0)
                                        have hf52_0 := hfr52 0
                                        (try simp only [show (k45).sz = 3 from rfl, Nat.mul_one, Nat.add_zero] at hf52_0)
                                        have hx52_1 := hcc52 1 _ rfl
                                        (try simp only [show (k45).sz = 3 from rfl, Nat.mul_one, Nat.add_zero] at hx52_1)
                                        have hf52_1 := hfr52 1
                                        (try simp only [show (k45).sz = 3 from rfl, Nat.mul_one, Nat.add_zero] at hf52_1)
                                        have hx52_2 := hcc52 2 _ rfl
                                        (try simp only [show (k45).sz = 3 from rfl, Nat.mul_one, Nat.add_zero] at hx52_2)
                                        have hf52_2 := hfr52 2
                                        (try simp only [show (k45).sz = 3 from rfl, Nat.mul_one, Nat.add_zero] at hf52_2)
                                        clear hcl52 hcc52 hfr52 hM52
                                        go_wp2_with (first | ((with_reducible refine gate_store (t := 45) (p := 123) rfl ?_); refine store_event (t := 45) (p := 123) (v := ?vo_w53) (w1 := (((wr.setCell ⟨go50, (x21_6 : Int).toNat * 3, none⟩ (.string (⟨#[115, 112, 111, 105, 108, 116, 32, 116, 111, 111]⟩ : ByteArray))).setCell ⟨go50, (x21_6 : Int).toNat * 3 + 1, none⟩ (.bool false)).setCell ⟨go50, (x21_6 : Int).toNat * 3 + 2, none⟩ (.int .i64 0))) ?hg ?ho ?hn ?hr ?_; (case ho => rfl); (case hg => rfl); (case hn => rfl); (case hr => first | (go_simp; done) | (go_simp; rfl)); intro w53 hw; have hg : wr.grownBy w53 (some go50) := (by rw [hw]; exact HP52.2); have hp_ : Kd.R k45 45 w53 w.heap.size (fun k_ => some k_ ≠ (u6 : Value).ownBlock ∧ some k_ ≠ (v289 : Value).ownBlock) (.slice (some ⟨go50, 0, none⟩) x13_6.length co51) y310 := (by rw [hw, Ny310.out]; exact HP52.1); clear HP52; have n0_ := Aside0.mk (Kd.R_over' (v := (.slice (some ⟨go50, 0, none⟩) x13_6.length co51)) (by (with_reducible repeat (first | apply Kd.R_alloc | apply Kd.R_drewN | apply Kd.R_drew)); exact HO_3.out) (Kd.R_typed HO_13.out) (by decide) hg); have n1_ := Aside0.mk (Kd.R_after (v := (.slice (some ⟨go50, 0, none⟩) x13_6.length co51)) (v1 := (.slice (some ⟨go50, 0, none⟩) x13_6.length co51)) (ok := (fun k_ => some k_ ≠ (v289 : Value).ownBlock)) (by (with_reducible repeat (first | apply Kd.R_alloc | apply Kd.R_drewN | apply Kd.R_drew)); exact HO_6.out) hg (.inl rfl)); have n2_ := Aside0.mk (Kd.R_after (v := (.slice (some ⟨go50, 0, none⟩) x13_6.length co51)) (v1 := (.slice (some ⟨go50, 0, none⟩) x13_6.length co51)) (ok := (fun k_ => some k_ ≠ (u6 : Value).ownBlock)) (by (with_reducible repeat (first | apply Kd.R_alloc | apply Kd.R_drewN | apply Kd.R_drew)); exact HO_10.out) hg (.inl rfl)); have n3_ := Aside0.mk (hp_); have n4_ := Aside0.mk (Kd.R_over' (v := (.slice (some ⟨go50, 0, none⟩) x13_6.length co51)) (by (with_reducible repeat (first | apply Kd.R_alloc | apply Kd.R_drewN | apply Kd.R_drew)); exact HO_16.out) (Kd.R_typed HO_13.out) (by decide) hg); have n5_ := Aside0.mk ((by rw [hw]; exact below_set (below_set (below_set (HB.out) GB50.out) GB50.out) GB50.out : Below w.heap.size w w53)); clear HO_3; clear HO_6; clear HO_10; clear HO_13; clear HO_16; clear HB; have HO_3 := n0_; have HO_6 := n1_; have HO_10 := n2_; have HO_13 := n3_; have HO_16 := n4_; have HB := n5_; clear n0_ n1_ n2_ n3_ n4_ n5_; clear hg hw hp_))
                                        go_roundg k6
                                        case measure => have := HJ4.out; have := HJ17.out; have := HK3.out; have := HK4.out; have := HJ39.out; have := HK6.out; omega
                                        case rel => exact ⟨(y310), (wrap64 (x21_6 + 1)), (by first | rfl | (simp; done) | (simp [*]; done)), H', ⟨by have := HJ4.out; have := HJ17.out; have := HK3.out; have := HK4.out; have := HJ39.out; have := HK6.out; omega⟩, ⟨by (try simp only [hl6_3]); (with_reducible repeat (first | apply Kd.R_alloc | apply Kd.R_drewN | apply Kd.R_drew)); exact HO_3.out⟩, ⟨by (try simp only [hl6_3]); (with_reducible repeat (first | apply Kd.R_alloc | apply Kd.R_drewN | apply Kd.R_drew)); exact HO_6.out⟩, ⟨by (try simp only [hl6_3]); (with_reducible repeat (first | apply Kd.R_alloc | apply Kd.R_drewN | apply Kd.R_drew)); exact HO_10.out⟩, ⟨by (try simp only [hl6_3]); (with_reducible repeat (first | apply Kd.R_alloc | apply Kd.R_drewN | apply Kd.R_drew)); exact HO_13.out⟩, ⟨by (try simp only [hl6_3]); (with_reducible repeat (first | apply Kd.R_alloc | apply Kd.R_drewN | apply Kd.R_drew)); exact HO_16.out⟩, ⟨by repeat (first | (with_reducible first | exact HB.out | apply below_alloc | apply pw_below_drewN | apply below_drew1) | exact HB.out)⟩⟩
                                      · rw [if_neg c49] at H
                                        exact absurd H (by simp)
                                    · rw [if_neg c48] at H
                                      have c48b0 : decide (x21_6 < (x13_6.length : Int)) = false := decide_eq_false c48
                                      clear c48
                                      replace H := Option.bind_eq_some_iff.mp H
                                      obtain ⟨⟨t311, t312, t313⟩, A540, H⟩ := H
                                      replace H : (if x9_39 = true then ((shardlaw1_sameWords.f k6 t311 t274).bind fun t316 => (if t316 = true then ((shardlaw1_sameWords.f k6 t286 t296).bind fun t317 => (if t317 = true then (some ((x6_4.length : Int) == (wrap64 ((t274.length : Int) + 40)))) else (some false))) else (some false))) else (some false)) = some r := H
                                      have A54 := Aside0.mk A540
                                      clear A540
                                      by_cases c55 : x9_39 = true
                                      · subst c55
                                        have H1 : ((shardlaw1_sameWords.f k6 t311 t274).bind fun t316 => (if t316 = true then ((shardlaw1_sameWords.f k6 t286 t296).bind fun t317 => (if t317 = true then (some ((x6_4.length : Int) == (wrap64 ((t274.length : Int) + 40)))) else (some false))) else (some false))) = some r := by rw [if_pos rfl] at H; exact H
                                        clear H
                                        have H := H1
                                        clear H1
                                        replace H := Option.bind_eq_some_iff.mp H
                                        obtain ⟨t316, A560, H⟩ := H
                                        replace H : (if t316 = true then ((shardlaw1_sameWords.f k6 t286 t296).bind fun t317 => (if t317 = true then (some ((x6_4.length : Int) == (wrap64 ((t274.length : Int) + 40)))) else (some false))) else (some false)) = some r := H
                                        have A56 := Aside0.mk A560
                                        clear A560
                                        by_cases c57 : t316 = true
                                        · subst c57
                                          have H1 : ((shardlaw1_sameWords.f k6 t286 t296).bind fun t317 => (if t317 = true then (some ((x6_4.length : Int) == (wrap64 ((t274.length : Int) + 40)))) else (some false))) = some r := by rw [if_pos rfl] at H; exact H
                                          clear H
                                          have H := H1
                                          clear H1
                                          replace H := Option.bind_eq_some_iff.mp H
                                          obtain ⟨t317, A580, H⟩ := H
                                          replace H : (if t317 = true then (some ((x6_4.length : Int) == (wrap64 ((t274.length : Int) + 40)))) else (some false)) = some r := H
                                          have A58 := Aside0.mk A580
                                          clear A580
                                          by_cases c59 : t317 = true
                                          · subst c59
                                            have H1 : (some ((x6_4.length : Int) == (wrap64 ((t274.length : Int) + 40)))) = some r := by rw [if_pos rfl] at H; exact H
                                            clear H
                                            have H := H1
                                            clear H1
                                            obtain rfl := Option.some.inj H
                                            obtain ⟨Ao60, co60, eo60⟩ := Kd.R_slice HO_13.out
                                            subst eo60
                                            go_wp2_with (first | ((with_reducible refine gate_callee (f := 21) rfl ?_); refine goesL_ (some 126) rfl rfl Tryd.func21 (by kernel_rfl) rfl #[.string a0] rfl (by (try simp only [List.map_toArray, List.map_cons, List.map_nil]); first | done | rfl | (simp only [List.length_drop, List.length_take]; rfl)) ?_; (with_reducible refine (text_Words.calls k6 a0 t311 t312 t313 _ ?side1 A54.out).mono ?_); (case side1 => exact glob_utf8.below HG_utf8.out (by repeat (first | (with_reducible first | exact HB.out | apply below_alloc | apply pw_below_drewN | apply below_drew1) | exact HB.out))); rintro e w61 ⟨v314, rfl, ho0, hb⟩; refine ⟨_, rfl, ?_⟩; have n0_ := Aside0.mk (Kd.R_below (by (with_reducible repeat (first | apply Kd.R_alloc | apply Kd.R_drewN | apply Kd.R_drew)); exact HO_3.out) hb); have n1_ := Aside0.mk (Kd.R_elder' (by (with_reducible repeat (first | apply Kd.R_alloc | apply Kd.R_drewN | apply Kd.R_drew)); exact HO_6.out) (Kd.R_base ho0) hb); have n2_ := Aside0.mk (Kd.R_elder' (by (with_reducible repeat (first | apply Kd.R_alloc | apply Kd.R_drewN | apply Kd.R_drew)); exact HO_10.out) (Kd.R_base ho0) hb); have n3_ := Aside0.mk (Kd.R_elder' (by (with_reducible repeat (first | apply Kd.R_alloc | apply Kd.R_drewN | apply Kd.R_drew)); exact HO_13.out) (Kd.R_base ho0) hb); have n4_ := Aside0.mk (Kd.R_below (by (with_reducible repeat (first | apply Kd.R_alloc | apply Kd.R_drewN | apply Kd.R_drew)); exact HO_16.out) hb); have n5_ := Aside0.mk (Kd.R_lower (Kd.R_new' (Kd.R_new' (Kd.R_new' ho0 (Kd.R_lt (by (with_reducible repeat (first | apply Kd.R_alloc | apply Kd.R_drewN | apply Kd.R_drew)); exact HO_6.out))) (Kd.R_lt (by (with_reducible repeat (first | apply Kd.R_alloc | apply Kd.R_drewN | apply Kd.R_drew)); exact HO_10.out))) (Kd.R_lt (by (with_reducible repeat (first | apply Kd.R_alloc | apply Kd.R_drewN | apply Kd.R_drew)); exact HO_13.out))) (below_size (by repeat (first | (with_reducible first | exact HB.out | apply below_alloc | apply pw_below_drewN | apply below_drew1) | exact HB.out)))); have n6_ := Aside0.mk (below_step (by repeat (first | (with_reducible first | exact HB.out | apply below_alloc | apply pw_below_drewN | apply below_drew1) | exact HB.out)) hb); clear HO_3; clear HO_6; clear HO_10; clear HO_13; clear HO_16; clear HB; have HO_3 := n0_; have HO_6 := n1_; have HO_10 := n2_; have HO_13 := n3_; have HO_16 := n4_; have HO315 := n5_; have HB := n6_; clear n0_ n1_ n2_ n3_ n4_ n5_ n6_; (try clear hb); (try clear hb2); (try clear hk); (try clear hi); (try clear ho0); obtain ⟨Ao62, co62, eo62⟩ := Kd.R_slice HO315.out; subst eo62) | (go_at_call 22; (with_reducible refine (shardlaw1_sameWords.calls k6 _ _ t311 _ _ t274 true _ ?side1 ?side2 ?side3 ?side4 A56.out).mono ?_); (case side1 => repeat (first | exact (Kd.R_reads' HO315.out).2.2 | (with_reducible refine Kd.C_alloc ?_ _) | (with_reducible refine Kd.C_drewN ?_ _) | (with_reducible refine Kd.C_drew ?_))); (case side2 => exact (Kd.R_reads' HO315.out).2.1); (case side3 => repeat (first | exact (Kd.R_reads' HO_3.out).2.2 | (with_reducible refine Kd.C_alloc ?_ _) | (with_reducible refine Kd.C_drewN ?_ _) | (with_reducible refine Kd.C_drew ?_))); (case side4 => exact (Kd.R_reads' HO_3.out).2.1); rintro e w' ⟨rfl, ⟨nd, rfl⟩⟩; obtain ⟨Ao63, co63, eo63⟩ := Kd.R_slice HO_10.out; subst eo63; obtain ⟨Ao64, co64, eo64⟩ := Kd.R_slice HO_16.out; subst eo64) | (go_at_call 22; (with_reducible refine (shardlaw1_sameWords.calls k6 _ _ t286 _ _ t296 true _ ?side1 ?side2 ?side3 ?side4 A58.out).mono ?_); (case side1 => repeat (first | exact (Kd.R_reads' HO_10.out).2.2 | (with_reducible refine Kd.C_alloc ?_ _) | (with_reducible refine Kd.C_drewN ?_ _) | (with_reducible refine Kd.C_drew ?_))); (case side2 => exact (Kd.R_reads' HO_10.out).2.1); (case side3 => repeat (first | exact (Kd.R_reads' HO_16.out).2.2 | (with_reducible refine Kd.C_alloc ?_ _) | (with_reducible refine Kd.C_drewN ?_ _) | (with_reducible refine Kd.C_drew ?_))); (case side4 => exact (Kd.R_reads' HO_16.out).2.1); rintro e w' ⟨rfl, ⟨nd, rfl⟩⟩; obtain ⟨Ao65, co65, eo65⟩ := Kd.R_slice HO_6.out; subst eo65))
                                            go_ret
                                            exact ⟨by first | rfl | (simp [errW_none, errW_some] <;> rfl) | (simp [*, errW_none, errW_some] <;> rfl), by repeat (first | (with_reducible first | exact HB.out | apply below_alloc | apply pw_below_drewN | apply below_drew1) | exact HB.out)⟩
                                          · replace c59 := Bool.eq_false_iff.mpr c59
                                            subst c59
                                            have H1 : (some false) = some r := by rw [if_neg (show ¬ (false = true) by decide)] at H; exact H
                                            clear H
                                            have H := H1
                                            clear H1
                                            obtain rfl := Option.some.inj H
                                            obtain ⟨Ao66, co66, eo66⟩ := Kd.R_slice HO_13.out
                                            subst eo66
                                            go_wp2_with (first | ((with_reducible refine gate_callee (f := 21) rfl ?_); refine goesL_ (some 126) rfl rfl Tryd.func21 (by kernel_rfl) rfl #[.string a0] rfl (by (try simp only [List.map_toArray, List.map_cons, List.map_nil]); first | done | rfl | (simp only [List.length_drop, List.length_take]; rfl)) ?_; (with_reducible refine (text_Words.calls k6 a0 t311 t312 t313 _ ?side1 A54.out).mono ?_); (case side1 => exact glob_utf8.below HG_utf8.out (by repeat (first | (with_reducible first | exact HB.out | apply below_alloc | apply pw_below_drewN | apply below_drew1) | exact HB.out))); rintro e w67 ⟨v314, rfl, ho0, hb⟩; refine ⟨_, rfl, ?_⟩; have n0_ := Aside0.mk (Kd.R_below (by (with_reducible repeat (first | apply Kd.R_alloc | apply Kd.R_drewN | apply Kd.R_drew)); exact HO_3.out) hb); have n1_ := Aside0.mk (Kd.R_elder' (by (with_reducible repeat (first | apply Kd.R_alloc | apply Kd.R_drewN | apply Kd.R_drew)); exact HO_6.out) (Kd.R_base ho0) hb); have n2_ := Aside0.mk (Kd.R_elder' (by (with_reducible repeat (first | apply Kd.R_alloc | apply Kd.R_drewN | apply Kd.R_drew)); exact HO_10.out) (Kd.R_base ho0) hb); have n3_ := Aside0.mk (Kd.R_elder' (by (with_reducible repeat (first | apply Kd.R_alloc | apply Kd.R_drewN | apply Kd.R_drew)); exact HO_13.out) (Kd.R_base ho0) hb); have n4_ := Aside0.mk (Kd.R_below (by (with_reducible repeat (first | apply Kd.R_alloc | apply Kd.R_drewN | apply Kd.R_drew)); exact HO_16.out) hb); have n5_ := Aside0.mk (Kd.R_lower (Kd.R_new' (Kd.R_new' (Kd.R_new' ho0 (Kd.R_lt (by (with_reducible repeat (first | apply Kd.R_alloc | apply Kd.R_drewN | apply Kd.R_drew)); exact HO_6.out))) (Kd.R_lt (by (with_reducible repeat (first | apply Kd.R_alloc | apply Kd.R_drewN | apply Kd.R_drew)); exact HO_10.out))) (Kd.R_lt (by (with_reducible repeat (first | apply Kd.R_alloc | apply Kd.R_drewN | apply Kd.R_drew)); exact HO_13.out))) (below_size (by repeat (first | (with_reducible first | exact HB.out | apply below_alloc | apply pw_below_drewN | apply below_drew1) | exact HB.out)))); have n6_ := Aside0.mk (below_step (by repeat (first | (with_reducible first | exact HB.out | apply below_alloc | apply pw_below_drewN | apply below_drew1) | exact HB.out)) hb); clear HO_3; clear HO_6; clear HO_10; clear HO_13; clear HO_16; clear HB; have HO_3 := n0_; have HO_6 := n1_; have HO_10 := n2_; have HO_13 := n3_; have HO_16 := n4_; have HO315 := n5_; have HB := n6_; clear n0_ n1_ n2_ n3_ n4_ n5_ n6_; (try clear hb); (try clear hb2); (try clear hk); (try clear hi); (try clear ho0); obtain ⟨Ao68, co68, eo68⟩ := Kd.R_slice HO315.out; subst eo68) | (go_at_call 22; (with_reducible refine (shardlaw1_sameWords.calls k6 _ _ t311 _ _ t274 true _ ?side1 ?side2 ?side3 ?side4 A56.out).mono ?_); (case side1 => repeat (first | exact (Kd.R_reads' HO315.out).2.2 | (with_reducible refine Kd.C_alloc ?_ _) | (with_reducible refine Kd.C_drewN ?_ _) | (with_reducible refine Kd.C_drew ?_))); (case side2 => exact (Kd.R_reads' HO315.out).2.1); (case side3 => repeat (first | exact (Kd.R_reads' HO_3.out).2.2 | (with_reducible refine Kd.C_alloc ?_ _) | (with_reducible refine Kd.C_drewN ?_ _) | (with_reducible refine Kd.C_drew ?_))); (case side4 => exact (Kd.R_reads' HO_3.out).2.1); rintro e w' ⟨rfl, ⟨nd, rfl⟩⟩; obtain ⟨Ao69, co69, eo69⟩ := Kd.R_slice HO_10.out; subst eo69; obtain ⟨Ao70, co70, eo70⟩ := Kd.R_slice HO_16.out; subst eo70) | (go_at_call 22; (with_reducible refine (shardlaw1_sameWords.calls k6 _ _ t286 _ _ t296 false _ ?side1 ?side2 ?side3 ?side4 A58.out).mono ?_); (case side1 => repeat (first | exact (Kd.R_reads' HO_10.out).2.2 | (with_reducible refine Kd.C_alloc ?_ _) | (with_reducible refine Kd.C_drewN ?_ _) | (with_reducible refine Kd.C_drew ?_))); (case side2 => exact (Kd.R_reads' HO_10.out).2.1); (case side3 => repeat (first | exact (Kd.R_reads' HO_16.out).2.2 | (with_reducible refine Kd.C_alloc ?_ _) | (with_reducible refine Kd.C_drewN ?_ _) | (with_reducible refine Kd.C_drew ?_))); (case side4 => exact (Kd.R_reads' HO_16.out).2.1); rintro e w' ⟨rfl, ⟨nd, rfl⟩⟩))
                                            go_ret
                                            exact ⟨by first | rfl | (simp [errW_none, errW_some] <;> rfl) | (simp [*, errW_none, errW_some] <;> rfl), by repeat (first | (with_reducible first | exact HB.out | apply below_alloc | apply pw_below_drewN | apply below_drew1) | exact HB.out)⟩
                                        · replace c57 := Bool.eq_false_iff.mpr c57
                                          subst c57
                                          have H1 : (some false) = some r := by rw [if_neg (show ¬ (false = true) by decide)] at H; exact H
                                          clear H
                                          have H := H1
                                          clear H1
                                          obtain rfl := Option.some.inj H
                                          obtain ⟨Ao71, co71, eo71⟩ := Kd.R_slice HO_13.out
                                          subst eo71
                                          go_wp2_with (first | ((with_reducible refine gate_callee (f := 21) rfl ?_); refine goesL_ (some 126) rfl rfl Tryd.func21 (by kernel_rfl) rfl #[.string a0] rfl (by (try simp only [List.map_toArray, List.map_cons, List.map_nil]); first | done | rfl | (simp only [List.length_drop, List.length_take]; rfl)) ?_; (with_reducible refine (text_Words.calls k6 a0 t311 t312 t313 _ ?side1 A54.out).mono ?_); (case side1 => exact glob_utf8.below HG_utf8.out (by repeat (first | (with_reducible first | exact HB.out | apply below_alloc | apply pw_below_drewN | apply below_drew1) | exact HB.out))); rintro e w72 ⟨v314, rfl, ho0, hb⟩; refine ⟨_, rfl, ?_⟩; have n0_ := Aside0.mk (Kd.R_below (by (with_reducible repeat (first | apply Kd.R_alloc | apply Kd.R_drewN | apply Kd.R_drew)); exact HO_3.out) hb); have n1_ := Aside0.mk (Kd.R_elder' (by (with_reducible repeat (first | apply Kd.R_alloc | apply Kd.R_drewN | apply Kd.R_drew)); exact HO_6.out) (Kd.R_base ho0) hb); have n2_ := Aside0.mk (Kd.R_elder' (by (with_reducible repeat (first | apply Kd.R_alloc | apply Kd.R_drewN | apply Kd.R_drew)); exact HO_10.out) (Kd.R_base ho0) hb); have n3_ := Aside0.mk (Kd.R_elder' (by (with_reducible repeat (first | apply Kd.R_alloc | apply Kd.R_drewN | apply Kd.R_drew)); exact HO_13.out) (Kd.R_base ho0) hb); have n4_ := Aside0.mk (Kd.R_below (by (with_reducible repeat (first | apply Kd.R_alloc | apply Kd.R_drewN | apply Kd.R_drew)); exact HO_16.out) hb); have n5_ := Aside0.mk (Kd.R_lower (Kd.R_new' (Kd.R_new' (Kd.R_new' ho0 (Kd.R_lt (by (with_reducible repeat (first | apply Kd.R_alloc | apply Kd.R_drewN | apply Kd.R_drew)); exact HO_6.out))) (Kd.R_lt (by (with_reducible repeat (first | apply Kd.R_alloc | apply Kd.R_drewN | apply Kd.R_drew)); exact HO_10.out))) (Kd.R_lt (by (with_reducible repeat (first | apply Kd.R_alloc | apply Kd.R_drewN | apply Kd.R_drew)); exact HO_13.out))) (below_size (by repeat (first | (with_reducible first | exact HB.out | apply below_alloc | apply pw_below_drewN | apply below_drew1) | exact HB.out)))); have n6_ := Aside0.mk (below_step (by repeat (first | (with_reducible first | exact HB.out | apply below_alloc | apply pw_below_drewN | apply below_drew1) | exact HB.out)) hb); clear HO_3; clear HO_6; clear HO_10; clear HO_13; clear HO_16; clear HB; have HO_3 := n0_; have HO_6 := n1_; have HO_10 := n2_; have HO_13 := n3_; have HO_16 := n4_; have HO315 := n5_; have HB := n6_; clear n0_ n1_ n2_ n3_ n4_ n5_ n6_; (try clear hb); (try clear hb2); (try clear hk); (try clear hi); (try clear ho0); obtain ⟨Ao73, co73, eo73⟩ := Kd.R_slice HO315.out; subst eo73) | (go_at_call 22; (with_reducible refine (shardlaw1_sameWords.calls k6 _ _ t311 _ _ t274 false _ ?side1 ?side2 ?side3 ?side4 A56.out).mono ?_); (case side1 => repeat (first | exact (Kd.R_reads' HO315.out).2.2 | (with_reducible refine Kd.C_alloc ?_ _) | (with_reducible refine Kd.C_drewN ?_ _) | (with_reducible refine Kd.C_drew ?_))); (case side2 => exact (Kd.R_reads' HO315.out).2.1); (case side3 => repeat (first | exact (Kd.R_reads' HO_3.out).2.2 | (with_reducible refine Kd.C_alloc ?_ _) | (with_reducible refine Kd.C_drewN ?_ _) | (with_reducible refine Kd.C_drew ?_))); (case side4 => exact (Kd.R_reads' HO_3.out).2.1); rintro e w' ⟨rfl, ⟨nd, rfl⟩⟩))
                                          go_ret
                                          exact ⟨by first | rfl | (simp [errW_none, errW_some] <;> rfl) | (simp [*, errW_none, errW_some] <;> rfl), by repeat (first | (with_reducible first | exact HB.out | apply below_alloc | apply pw_below_drewN | apply below_drew1) | exact HB.out)⟩
                                      · replace c55 := Bool.eq_false_iff.mpr c55
                                        subst c55
                                        have H1 : (some false) = some r := by rw [if_neg (show ¬ (false = true) by decide)] at H; exact H
                                        clear H
                                        have H := H1
                                        clear H1
                                        obtain rfl := Option.some.inj H
                                        obtain ⟨Ao74, co74, eo74⟩ := Kd.R_slice HO_13.out
                                        subst eo74
                                        go_wp2_with (first | ((with_reducible refine gate_callee (f := 21) rfl ?_); refine goesL_ (some 126) rfl rfl Tryd.func21 (by kernel_rfl) rfl #[.string a0] rfl (by (try simp only [List.map_toArray, List.map_cons, List.map_nil]); first | done | rfl | (simp only [List.length_drop, List.length_take]; rfl)) ?_; (with_reducible refine (text_Words.calls k6 a0 t311 t312 t313 _ ?side1 A54.out).mono ?_); (case side1 => exact glob_utf8.below HG_utf8.out (by repeat (first | (with_reducible first | exact HB.out | apply below_alloc | apply pw_below_drewN | apply below_drew1) | exact HB.out))); rintro e w75 ⟨v314, rfl, ho0, hb⟩; refine ⟨_, rfl, ?_⟩; have n0_ := Aside0.mk (Kd.R_below (by (with_reducible repeat (first | apply Kd.R_alloc | apply Kd.R_drewN | apply Kd.R_drew)); exact HO_3.out) hb); have n1_ := Aside0.mk (Kd.R_elder' (by (with_reducible repeat (first | apply Kd.R_alloc | apply Kd.R_drewN | apply Kd.R_drew)); exact HO_6.out) (Kd.R_base ho0) hb); have n2_ := Aside0.mk (Kd.R_elder' (by (with_reducible repeat (first | apply Kd.R_alloc | apply Kd.R_drewN | apply Kd.R_drew)); exact HO_10.out) (Kd.R_base ho0) hb); have n3_ := Aside0.mk (Kd.R_elder' (by (with_reducible repeat (first | apply Kd.R_alloc | apply Kd.R_drewN | apply Kd.R_drew)); exact HO_13.out) (Kd.R_base ho0) hb); have n4_ := Aside0.mk (Kd.R_below (by (with_reducible repeat (first | apply Kd.R_alloc | apply Kd.R_drewN | apply Kd.R_drew)); exact HO_16.out) hb); have n5_ := Aside0.mk (Kd.R_lower (Kd.R_new' (Kd.R_new' (Kd.R_new' ho0 (Kd.R_lt (by (with_reducible repeat (first | apply Kd.R_alloc | apply Kd.R_drewN | apply Kd.R_drew)); exact HO_6.out))) (Kd.R_lt (by (with_reducible repeat (first | apply Kd.R_alloc | apply Kd.R_drewN | apply Kd.R_drew)); exact HO_10.out))) (Kd.R_lt (by (with_reducible repeat (first | apply Kd.R_alloc | apply Kd.R_drewN | apply Kd.R_drew)); exact HO_13.out))) (below_size (by repeat (first | (with_reducible first | exact HB.out | apply below_alloc | apply pw_below_drewN | apply below_drew1) | exact HB.out)))); have n6_ := Aside0.mk (below_step (by repeat (first | (with_reducible first | exact HB.out | apply below_alloc | apply pw_below_drewN | apply below_drew1) | exact HB.out)) hb); clear HO_3; clear HO_6; clear HO_10; clear HO_13; clear HO_16; clear HB; have HO_3 := n0_; have HO_6 := n1_; have HO_10 := n2_; have HO_13 := n3_; have HO_16 := n4_; have HO315 := n5_; have HB := n6_; clear n0_ n1_ n2_ n3_ n4_ n5_ n6_; (try clear hb); (try clear hb2); (try clear hk); (try clear hi); (try clear ho0)))
                                        go_ret
                                        exact ⟨by first | rfl | (simp [errW_none, errW_some] <;> rfl) | (simp [*, errW_none, errW_some] <;> rfl), by repeat (first | (with_reducible first | exact HB.out | apply below_alloc | apply pw_below_drewN | apply below_drew1) | exact HB.out)⟩
              · replace c31 := Bool.eq_false_iff.mpr c31
                subst c31
                have H1 : (some false) = some r := by rw [if_neg (show ¬ (false = true) by decide)] at H; exact H
                clear H
                have H := H1
                clear H1
                obtain rfl := Option.some.inj H
                go_wp2
                go_ret
                exact ⟨by first | rfl | (simp [errW_none, errW_some] <;> rfl) | (simp [*, errW_none, errW_some] <;> rfl), by repeat (first | (with_reducible first | exact HB.out | apply below_alloc | apply pw_below_drewN | apply below_drew1) | exact HB.out)⟩
        · rw [if_neg c14] at H
          exact absurd H (by simp)

/-- THE ONE PURE STATEMENT of shardlaw1_TextWords: yours. -/
def shardlaw1_TextWords.Pure : Prop := ∀ (a0 : ByteArray), a0.size ≤ 140737488351232 → ∃ k, shardlaw1_TextWords.f k a0 = some true

end Go.Proofs.YtplhcnlpfoiieaaDoor.P
