/- the law LinearRight -/
import Derived.Test.YtdjdbjcapenjeaaDxTab
import Derived.Test.YtdjdbjcapenjeaaDx3
import Derived.Test.YtdjdbjcapenjeaaDxTy
import Derived.Test.YtdjdbjcapenjeaaKR3
import Derived.Test.YtdjdbjcapenjeaaKD
import Derived.Test.YtdjdbjcapenjeaaA
import Derived.Test.YtdjdbjcapenjeaaE
import Derived.Test.YtdjdbjcapenjeaaKR2
set_option linter.unusedVariables false
set_option maxRecDepth 100000
open Go Go.Proofs Go.Proofs.Ytdjdbjcapenjeaa.Dx Go.Proofs.Ytdjdbjcapenjeaa.Dx.TYtdjdbjcapenjeaa
namespace Go.Proofs.Ytdjdbjcapenjeaa.KR4
namespace F7
noncomputable def purs : List (Nat × (List Ty × (List AV → PV))) := [(16, (Go.Proofs.Ytdjdbjcapenjeaa.A.F16.ts, Go.Proofs.Ytdjdbjcapenjeaa.A.F16.G)), (18, (Go.Proofs.Ytdjdbjcapenjeaa.E.F18.ts, Go.Proofs.Ytdjdbjcapenjeaa.E.F18.G)), (20, (Go.Proofs.Ytdjdbjcapenjeaa.KD.F20.ts, Go.Proofs.Ytdjdbjcapenjeaa.KD.F20.G)), (23, (Go.Proofs.Ytdjdbjcapenjeaa.KR3.F23.ts, Go.Proofs.Ytdjdbjcapenjeaa.KR3.F23.G)), (24, (Go.Proofs.Ytdjdbjcapenjeaa.KR2.F24.ts, Go.Proofs.Ytdjdbjcapenjeaa.KR2.F24.G))]
noncomputable def callF (g : FuncId) : CF := fun _ _ _ => False
noncomputable def loops : List (Nat × (List Nat × (K → Nat → St → Prop))) := []
noncomputable def C : Ctx := { ti := ti, meth := meth, can := can, pur := purOf purs, loops := fun i => seek loops i, gh := fun _ => [], rk := some ([2], 0) }
noncomputable def Main (calls : (List D30)) (k : AV → Prop) : Prop :=
  (bif decide ((↑calls.length : Int) > (6 : Int)) then k (.v .bool (true)) else ((KD.F20.Pre calls) ∧ (bif A.F16.val (KD.F20.val calls).snd != (0 : Int) then (bif !(KD.F20.val calls).fst.fst then (bif (↑(List.length (KD.F20.val calls).fst.snd.snd.fst) : Int) == (0 : Int) then ((calls.length ≤ LB) ∧ k (.v .bool (!calls.all (KR3.F23.clF calls)))) else k (.v .bool (false))) else k (.v .bool (false))) else (bif (KD.F20.val calls).fst.fst then ((calls.length ≤ LB) ∧ ((List.length (KD.F20.val calls).fst.snd.snd.fst ≤ LB) ∧ k (.v .bool (E.F18.val calls (KD.F20.val calls).fst.snd.snd.fst)))) else (bif (↑(List.length (KD.F20.val calls).fst.snd.snd.fst) : Int) == (0 : Int) then (bif decide ((↑calls.length : Int) > (0 : Int)) then (((0 : Int) ≤ (0 : Int)) ∧ (((0 : Int) < (↑calls.length : Int)) ∧ (bif (KD.F20.val calls).fst.snd.fst == (calls.getD (Int.toNat (0 : Int)) d30).snd.snd.fst.snd.fst then ((KR2.preP (KR2.FUof (12 : Nat)) calls []) ∧ k (.v .bool (!KR2.permF (KR2.FUof (12 : Nat)) calls []))) else k (.v .bool (false))))) else k (.v .bool (false))) else k (.v .bool (false)))))))
theorem main (calls : (List D30)) (k : AV → Prop) : (runFn C callF Try.f7 [.v (.sl (.pair (.int .u8) (.pair (.int .u64) (.pair (.pair (.int .u8) (.pair (.int .u64) (.pair (.int .u64) (.pair (.sl (.int .u8)) (.pair (.sl (.int .u8)) (.pair .bool (.pair (.int .u8) .unit))))))) (.pair (.int .u8) (.pair (.sl (.int .u8)) (.pair (.int .i64) (.pair (.int .i64) .unit)))))))) calls] [] (fun r H => coRes H [.bool] r k)) = Main calls k := by kernel_rfl
def val (calls : (List D30)) : Bool :=
  (bif decide ((↑calls.length : Int) > (6 : Int)) then (true) else (bif A.F16.val (KD.F20.val calls).snd != (0 : Int) then (bif !(KD.F20.val calls).fst.fst then (bif (↑(List.length (KD.F20.val calls).fst.snd.snd.fst) : Int) == (0 : Int) then (!calls.all (KR3.F23.clF calls)) else (false)) else (false)) else (bif (KD.F20.val calls).fst.fst then (E.F18.val calls (KD.F20.val calls).fst.snd.snd.fst) else (bif (↑(List.length (KD.F20.val calls).fst.snd.snd.fst) : Int) == (0 : Int) then (bif decide ((↑calls.length : Int) > (0 : Int)) then (bif (KD.F20.val calls).fst.snd.fst == (calls.getD (Int.toNat (0 : Int)) d30).snd.snd.fst.snd.fst then (!KR2.permF (KR2.FUof (12 : Nat)) calls []) else (false)) else (false)) else (false)))))
def Pre (calls : (List D30)) : Prop :=
  (bif decide ((↑calls.length : Int) > (6 : Int)) then True else ((KD.F20.Pre calls) ∧ (bif A.F16.val (KD.F20.val calls).snd != (0 : Int) then (bif !(KD.F20.val calls).fst.fst then (bif (↑(List.length (KD.F20.val calls).fst.snd.snd.fst) : Int) == (0 : Int) then (calls.length ≤ LB) else True) else True) else (bif (KD.F20.val calls).fst.fst then ((calls.length ≤ LB) ∧ (List.length (KD.F20.val calls).fst.snd.snd.fst ≤ LB)) else (bif (↑(List.length (KD.F20.val calls).fst.snd.snd.fst) : Int) == (0 : Int) then (bif decide ((↑calls.length : Int) > (0 : Int)) then (((0 : Int) < (↑calls.length : Int)) ∧ (bif (KD.F20.val calls).fst.snd.fst == (calls.getD (Int.toNat (0 : Int)) d30).snd.snd.fst.snd.fst then (KR2.preP (KR2.FUof (12 : Nat)) calls []) else True)) else True) else True)))))
def valAV (x : Bool) : AV := .v .bool x
theorem specP (calls : (List D30)) (k : AV → Prop) (h : Pre calls) (hk : k (.v .bool (val calls))) : Main calls k := ((bif_PV (K := fun x => k (valAV x)) (fun _ h => h) (and_p (K := fun x => k (valAV x)) (bif_PV (K := fun x => k (valAV x)) (bif_PV (K := fun x => k (valAV x)) (bif_PV (K := fun x => k (valAV x)) (and_t (K := fun x => k (valAV x)) (fun _ h => h)) (fun _ h => h)) (fun _ h => h)) (bif_PV (K := fun x => k (valAV x)) (and_p (K := fun x => k (valAV x)) (and_t (K := fun x => k (valAV x)) (fun _ h => h))) (bif_PV (K := fun x => k (valAV x)) (bif_PV (K := fun x => k (valAV x)) (and_c (K := fun x => k (valAV x)) (of_decide_eq_true rfl) (and_p (K := fun x => k (valAV x)) (bif_PV (K := fun x => k (valAV x)) (and_t (K := fun x => k (valAV x)) (fun _ h => h)) (fun _ h => h)))) (fun _ h => h)) (fun _ h => h)))))) : Pre calls → (fun x => k (valAV x)) (val calls) → Main calls k) h hk
open KP2 KP4 KR1 KC.F43
/-- What the search for one key's order says. -/
theorem judge_ok {cs : List D30} (g : Good cs) : ((KC.F43.val cs).2 = true → Ord cs 0 d60 (KC.F43.val cs).1) ∧ ((KC.F43.val cs).2 = false → ¬ KP2.Can cs 0 d60) := by
  have h16 := g.n16
  have hml := mu_le 0 cs.length
  have h0 : 0 < 2 ^ cs.length := Nat.two_pow_pos _
  obtain ⟨a1, a2⟩ := comp_ok g 40 0 d60 ([], fl0 cs, 0, []) h0 (.inl rfl) (by omega) ⟨KP6.inv0 cs, Nat.le_refl _, by show 0 + mu 0 cs.length ≤ 16; omega⟩
  have a3 : Post cs 0 d60 ([], fl0 cs, 0, []) (jd cs) := a2
  unfold KC.F43.val
  cases h : (jd cs).1 with
  | true =>
    rw [Bool.not_true, cond_false]
    obtain ⟨o, o1, o2, o3, o4⟩ := a3.1 h
    refine ⟨fun _ => ?_, fun e => (nomatch e)⟩
    show Ord cs 0 d60 (List.take (jd cs).2.2.2.1 (jd cs).2.2.2.2)
    rw [o4]
    exact o1
  | false =>
    rw [Bool.not_false, cond_true]
    exact ⟨fun e => (nomatch e), fun _ => (a3.2 h).1⟩
theorem perm_some (cs : List D30) : ∀ (f : Nat) (o : List Int), KR2.permF f cs o = true → ∃ o', E.F18.val cs o' = true
  | 0, o, h => (nomatch h)
  | f + 1, o, h => by
    rw [KR2.permF] at h
    cases e : E.F18.val cs o with
    | true => exact ⟨o, e⟩
    | false =>
      rw [e, cond_false, List.any_eq_true] at h
      obtain ⟨i, _, h2⟩ := h
      rw [Bool.and_eq_true] at h2
      exact perm_some cs f _ h2.2
theorem cl_ok (cs : List D30) (c : D30) (h : KR3.F23.clF cs c = true) : KD.F20.okK cs c = true := by
  unfold KR3.F23.clF at h
  simp only [Bool.and_eq_true, Bool.not_eq_true', decide_eq_false_iff_not, Bool.or_eq_true] at h
  obtain ⟨hk, hb, hkd, hl⟩ := h
  have hkind : c.2.2.1.1 = 1 ∨ c.2.2.1.1 = 2 := by
    rw [Bool.and_eq_false_iff, bne_eq_false_iff_eq, bne_eq_false_iff_eq] at hkd
    exact hkd
  unfold KD.F20.okK
  rw [PObeys.mayBe_eq, hk, Bool.not_false, Bool.and_true]
  have h28 : A.F28.val c = false := by
    show (c.2.2.1.1 == 5) = false
    rw [beq_eq_false_iff_ne]; omega
  rw [h28, Bool.not_false, Bool.and_true]
  unfold B.F25.val
  rw [decide_eq_false (show ¬ c.snd.snd.fst.fst < 1 by omega), decide_eq_false (show ¬ c.snd.snd.fst.fst > 5 by omega), decide_eq_false (show ¬ c.snd.snd.snd.snd.snd.fst < 0 by omega), cond_false, cond_false, cond_false]
  unfold KR3.lostF KR3.gotF KR3.setF at hl
  simp only [Bool.and_eq_true, Bool.or_eq_true, beq_iff_eq, decide_eq_true_iff] at hl
  rcases hl with ⟨e1, e2, e3⟩ | ⟨e1, e2, e3⟩ | ⟨e1, e2, e3, e4⟩
  · have : A.F45.val c = false := by
      show (c.snd.snd.snd.snd.snd.snd.fst != (-1 : Int)) = false
      rw [e1]; rfl
    rw [this, Bool.not_false, cond_true, e2, e3]; rfl
  · have : A.F45.val c = true := by
      show (c.snd.snd.snd.snd.snd.snd.fst != (-1 : Int)) = true
      rw [bne_iff_ne]; omega
    rw [this, Bool.not_true, cond_false, decide_eq_false (show ¬ c.snd.snd.snd.snd.snd.snd.fst ≤ c.snd.snd.snd.snd.snd.fst by omega), cond_false, e2]
    rcases e3 with e3 | ⟨e3, e4⟩
    · rw [e3]
      cases decide ((↑(List.length c.snd.snd.snd.snd.fst) : Int) > 0) <;> rfl
    · rw [e3, e4]; rfl
  · have : A.F45.val c = true := by
      show (c.snd.snd.snd.snd.snd.snd.fst != (-1 : Int)) = true
      rw [bne_iff_ne]; omega
    rw [this, Bool.not_true, cond_false, decide_eq_false (show ¬ c.snd.snd.snd.snd.snd.snd.fst ≤ c.snd.snd.snd.snd.snd.fst by omega), cond_false, e3, e4]; rfl
theorem right (cs : List D30) (hl : cs.length ≤ LB) (h1 : ∀ c ∈ cs, C.F9.LC c) (h2 : ∀ c ∈ cs, PObeys.CB c) : Pre cs ∧ val cs = true := by
  obtain ⟨k1, k2, k3, k4⟩ := KP6.key_eq cs hl h1 h2
  unfold Pre val
  by_cases h6 : (cs.length : Int) > 6
  · rw [decide_eq_true h6]; exact ⟨trivial, rfl⟩
  rw [decide_eq_false h6, cond_false, cond_false]
  have h16 : decide ((cs.length : Int) > 16) = false := decide_eq_false (by omega)
  cases ha : cs.all (KD.F20.okK cs) with
  | false =>
    have hv : KD.F20.val cs = ((false, 0, [], ()), 140) := by unfold KD.F20.val; rw [h16, ha]; rfl
    rw [hv]
    refine ⟨⟨k1, hl⟩, ?_⟩
    show (!cs.all (KR3.F23.clF cs)) = true
    cases hc : cs.all (KR3.F23.clF cs) with
    | false => rfl
    | true =>
      rw [List.all_eq_true.2 fun c hm => cl_ok cs c (List.all_eq_true.1 hc c hm)] at ha; cases ha
  | true =>
    have ha' : cs.all (KH.F21.okD cs) = true := by rw [← show KD.F20.okK cs = KH.F21.okD cs from funext (KP6.ok_eq cs)]; exact ha
    have g := KP6.good (by omega) ha' h1 h2
    have hkey : OneKey cs := fun c hc => by
      have h := List.all_eq_true.1 ha c hc
      unfold KD.F20.okK at h
      rw [Bool.and_eq_true, Bool.not_eq_true', bne_eq_false_iff_eq] at h
      exact h.2
    obtain ⟨o1, o2, o3, o4, o5⟩ := KP6.order_eq g
    obtain ⟨j1, j2⟩ := judge_ok g
    cases hb : (KC.F43.val cs).2 with
    | true =>
      have hv : KD.F20.val cs = ((true, 0, (KC.F43.val cs).1, ()), 0) := by unfold KD.F20.val; rw [h16, ha, hb]; rfl
      rw [hv]
      refine ⟨⟨k1, hl, ?_⟩, (obeys_iff g hkey _).2 (chain_of (j1 hb))⟩
      show (KC.F43.val cs).1.length ≤ LB
      have hLB : LB = 1073741824 := rfl
      omega
    | false =>
      have hv : KD.F20.val cs = ((false, (cs.getD 0 d30).2.2.1.2.1, [], ()), 0) := by unfold KD.F20.val; rw [h16, ha, hb]; rfl
      have hpos := o4 hb
      have hperm : KR2.permF 12 cs [] = false := by
        cases hp : KR2.permF 12 cs [] with
        | false => rfl
        | true =>
          obtain ⟨o', ho⟩ := perm_some cs 12 [] hp
          exact absurd ((obeys_iff g hkey o').1 ho).can (j2 hb)
      have hun : KR2.un cs [] ≤ cs.length := by
        have := List.length_filter_le (fun (i : Nat) => !([] : List Int).any (· == (i : Int))) (List.range' 0 cs.length)
        rw [List.length_range'] at this
        exact this
      rw [hv]
      dsimp only
      rw [show (A.F16.val 0 != (0 : Int)) = false from rfl, cond_false, cond_false, cond_false, cond_false, show ((List.length ([] : List Int) : Int) == 0) = true from rfl, cond_true, cond_true, decide_eq_true (show (cs.length : Int) > 0 by omega), cond_true, cond_true,
        show ((cs.getD 0 d30).2.2.1.2.1 == (cs.getD (Int.toNat (0 : Int)) d30).2.2.1.2.1) = true from beq_self_eq_true _, cond_true, cond_true]
      refine ⟨⟨k1, by omega, by omega, ?_, ?_⟩, by show (!KR2.permF 12 cs []) = true; rw [hperm]; rfl⟩
      · show 0 + KR2.un cs [] ≤ 40; omega
      · show KR2.un cs [] < 12; omega
theorem spec (calls : List D30) (k : AV → Prop) (h : AllP [calls.length ≤ LB, ∀ c ∈ calls, C.F9.LC c, ∀ c ∈ calls, PObeys.CB c]) (hk : k (.v .bool true)) : Main calls k := by
  obtain ⟨hl, h1, h2, _⟩ := h
  obtain ⟨p, v⟩ := right calls hl h1 h2
  exact specP calls k p (by rw [v]; exact hk)
noncomputable def ts : List Ty := [(.sl T30)]
noncomputable def G : List AV → PV := pg1 (.sl T30) (fun calls => [calls.length ≤ LB, ∀ c ∈ calls, C.F9.LC c, ∀ c ∈ calls, PObeys.CB c]) (fun calls => .v .bool true)
theorem loopsOK : LoopsOK C callF (bodyOf Try.f7) := loopsOK_seek (tbl := loops) (fun _ => rfl) (by kernel_rfl) (fun _ h => nomatch h)
theorem pursOK : ∀ g ts F, C.pur g = some (ts, F) → SoundP Try.prog g F := purOf_ok (l := purs) (List.forall_mem_cons.2 ⟨Go.Proofs.Ytdjdbjcapenjeaa.A.F16.ok, List.forall_mem_cons.2 ⟨Go.Proofs.Ytdjdbjcapenjeaa.E.F18.ok, List.forall_mem_cons.2 ⟨Go.Proofs.Ytdjdbjcapenjeaa.KD.F20.ok, List.forall_mem_cons.2 ⟨Go.Proofs.Ytdjdbjcapenjeaa.KR3.F23.ok, List.forall_mem_cons.2 ⟨Go.Proofs.Ytdjdbjcapenjeaa.KR2.F24.ok, fun _ h => nomatch h⟩⟩⟩⟩⟩)
theorem cfsOK : ∀ g, SoundF Try.prog g (callF g) := fun g => soundF_none g
theorem ok : SoundP Try.prog 7 G := by
  unfold G
  refine soundP_pg1 (soundF_run (C := C) (callF := callF) (tabOK C rfl rfl rfl) cfsOK pursOK Try.func7 (by kernel_rfl) loopsOK) [.bool] fun calls h => ?_
  rw [main]
  exact spec calls _ h rfl
end F7

end Go.Proofs.Ytdjdbjcapenjeaa.KR4
