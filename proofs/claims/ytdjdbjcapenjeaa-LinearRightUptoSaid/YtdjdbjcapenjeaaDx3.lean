/- Runs of functions on abstract values, 3. -/
import Derived.Test.YtdjdbjcapenjeaaDx2
import Derived.IntWalk
/- The table held against a program; calls. -/
namespace Go.Proofs.Ytdjdbjcapenjeaa.Dx
open Go
theorem seek_in {α : Type} : ∀ (l : List (Nat × α)) (t : Nat) (i : α), seek l t = some i → (t, i) ∈ l
  | [], t, i, h => by cases h
  | p :: r, t, i, h => by
    simp only [seek] at h
    cases hb : Nat.beq p.1 t with
    | true =>
      rw [hb] at h
      cases h
      have := Nat.eq_of_beq_eq_true hb
      subst this
      exact List.mem_cons_self ..
    | false => rw [hb] at h; exact List.mem_cons_of_mem _ (seek_in r t i h)
def zval (z : Ty) : Option Value := match zcells z with | some cs => some (if z.agg then .agg cs.toArray else cs.headD undef) | none => none
/-- One entry of the table, held against the program. -/
def Entry (P : Program) (t : TypeId) (i : TI) : Prop :=
  P.underlying t = some i.desc ∧ (P.info? t).map (·.size) = some i.size ∧ (P.info? t).map (·.bytes) = some i.bytes ∧ (match i.zero with | some z => (P.info? t).bind (·.zero) = zval z ∧ (zcells z).isSome = true ∧ i.size = z.size | none => True)
theorem tab_of {C : Ctx} {P : Program} (h : ∀ p ∈ C.ti, Entry P p.1 p.2) (hm : ∀ t n f, C.meth t n = some f → ∀ args w, (callMethod (.iface t (.agg #[])) n args).run P w = .ok (.enter f (#[.agg #[]] ++ args)) w)
    (hc : ∀ f, C.can f = true → ∀ args w, (callFunc f args).run P w = .ok (.enter f args) w) (hx : P.follows .mixedOrders = true) : TabOK C P := by
  refine ⟨fun t i ht => (h _ (seek_in _ _ _ ht)).1, fun t i ht => ?_, fun t i ht z hz => ?_, hm, hc, hx⟩
  · obtain ⟨_, h2, h3, h4⟩ := h _ (seek_in _ _ _ ht)
    obtain ⟨f, hf, hfs⟩ := Option.map_eq_some_iff.1 h2
    rw [hf] at h3 h4
    refine ⟨f, hf, hfs, by simpa using h3, fun z hz => ?_⟩
    simp only [hz] at h4
    obtain ⟨g1, g2, _⟩ := h4
    obtain ⟨cs, hcs⟩ := Option.isSome_iff_exists.1 g2
    refine ⟨cs, hcs, ?_⟩
    simp only [zval, hcs] at g1
    simpa using g1
  · obtain ⟨_, _, _, h4⟩ := h _ (seek_in _ _ _ ht)
    simp only [hz] at h4
    exact h4.2.2
theorem call_of {P : Program} {f : FuncId} {fn : Func} (hf : P.funcs[f]? = some fn) (hn : (fn.name == "runtime.NumGoroutine") = false) (hb : fn.body.isNone = false) : ∀ args w, (callFunc f args).run P w = .ok (.enter f args) w := by
  intro args w
  have hn' : ¬ fn.name = "runtime.NumGoroutine" := by simpa using hn
  have hb' : fn.body ≠ none := by intro e; rw [e] at hb; cases hb
  simp [callFunc, hf, hn', hb']
end Go.Proofs.Ytdjdbjcapenjeaa.Dx

/- A run looks into the table of loops at its own loops alone; loops of so many rounds at most. -/
namespace Go.Proofs.Ytdjdbjcapenjeaa.Dx
open Go
set_option linter.unusedVariables false
set_option linter.unusedSimpArgs false

/-- The loops that the code bears. -/
def loopIds : Code → List Nat
  | .seq a b => loopIds a ++ loopIds b
  | .cond _ a b => loopIds a ++ loopIds b
  | .block _ c => loopIds c
  | .loop c => [firstRegion c]
  | _ => []
def Ctx.withL (C : Ctx) (l : Nat → Option (List Nat × (K → Nat → St → Prop))) : Ctx := { C with loops := l }
section
variable (C : Ctx) (l : Nat → Option (List Nat × (K → Nat → St → Prop))) (callF : FuncId → CF)
theorem fieldsOK_L : ∀ (τ : Ty) (off : Nat) (fs : List Field), fieldsOK (C.withL l) τ off fs = fieldsOK C τ off fs
  | .pair a b, off, [] => rfl
  | .pair a b, off, f :: fs => by
    simp only [fieldsOK, fieldsOK_L b]
    rfl
  | .unit, _, fs => by cases fs <;> rfl
  | .int _, _, _ => rfl
  | .bool, _, _ => rfl
  | .str, _, _ => rfl
  | .nl, _, _ => rfl
  | .nilp, _, _ => rfl
  | .nilm, _, _ => rfl
  | .nili, _, _ => rfl
  | .nilf, _, _ => rfl
  | .arr _ _, _, _ => rfl
  | .sl _, _, _ => rfl
  | .ptr _, _, _ => rfl
  | .ref, _, _ => rfl
  | .tag, _, _ => rfl
  | .ifc _ _, _, _ => rfl
theorem opEff_L (ev : Operand → AV) (H : List HObj) (op : Op) : opEff (C.withL l) ev H op = opEff C ev H op := by
  cases op
  case build t parts =>
    simp only [opEff, buildD, fieldsOK_L]
    rfl
  case unOp o t x => cases o <;> rfl
  case makeFunc f a b => cases f <;> rfl
  case slice t x lo hi mx => cases mx <;> rfl
  case typeAssert x a t ok => cases ok <;> rfl
  all_goals rfl
theorem runEff_L (d : Option Nat) (e : Eff) (s : St) (κ : St → Prop) : runEff (C.withL l) callF d e s κ = runEff C callF d e s κ := by
  cases e <;> rfl
theorem runOps_L (ops : Array Oper) (κ : St → Prop) : ∀ (r : List Oper) (s : St), runOps (C.withL l) callF ops κ r s = runOps C callF ops κ r s
  | [], s => rfl
  | o :: r, s => by
    have ih := funext (runOps_L ops κ r)
    have hf : ∀ d κ, frzK (C.withL l) d κ = frzK C d κ := fun _ _ => rfl
    simp only [runOps, opEff_L, runEff_L, ih, hf]
theorem runD_L (ops : Array Oper) (ms : List Nat) (base : Nat) (κ : St → Prop) : ∀ (r : List Oper) (i : Nat) (L : Log) (s : St), runD (C.withL l) callF ops ms base κ i L r s = runD C callF ops ms base κ i L r s
  | [], i, L, s => rfl
  | o :: r, i, L, s => by
    have ih : ∀ i L s, runD (C.withL l) callF ops ms base κ i L r s = runD C callF ops ms base κ i L r s := fun i L s => runD_L ops ms base κ r i L s
    have ho := runOps_L C l callF ops κ (o :: r)
    have hp : (C.withL l).pur = C.pur := rfl
    simp only [runD, opEff_L, ih, ho, hp]
theorem exec_L : ∀ (c : Code) (k : K) (s : St), (∀ i ∈ loopIds c, l i = C.loops i) → exec (C.withL l) callF c k s = exec C callF c k s
  | .skip, k, s, h => rfl
  | .region id ops draw, k, s, h => by
    have hg : (C.withL l).gh = C.gh := rfl
    have hgk : (C.withL l).gk = C.gk := rfl
    have hc : (C.withL l).cuts = C.cuts := rfl
    simp only [exec, regRun, hg, hgk, hc, runOps_L, runD_L]
  | .seq a b, k, s, h => by
    have ha := fun k s => exec_L a k s (fun i hi => h i (List.mem_append_left _ hi))
    have hb := funext fun s => exec_L b k s (fun i hi => h i (List.mem_append_right _ hi))
    simp only [exec, ha, hb]
  | .cond c a b, k, s, h => by
    have ha := fun k s => exec_L a k s (fun i hi => h i (List.mem_append_left _ hi))
    have hb := fun k s => exec_L b k s (fun i hi => h i (List.mem_append_right _ hi))
    simp only [exec, ha, hb]
  | .block id c, k, s, h => by
    have ha := fun k s => exec_L c k s h
    simp only [exec, ha]
  | .loop c, k, s, h => by
    have hl : (C.withL l).loops (firstRegion c) = C.loops (firstRegion c) := h _ (List.mem_singleton.2 rfl)
    simp only [exec, hl]
  | .exit id, k, s, h => rfl
  | .label _, k, s, h => rfl
  | .ret, k, s, h => rfl
  | .goto _, k, s, h => rfl
  | .rangeFunc _ _ _ _, k, s, h => rfl
  | .scope _, k, s, h => rfl
  | .refuse _, k, s, h => rfl
theorem loopN_L (keep : List Nat) (n : Nat) (c : Code) (h : ∀ i ∈ loopIds c, l i = C.loops i) (k : K) : ∀ (m : Nat) (s : St), loopN (C.withL l) callF keep n c k m s = loopN C callF keep n c k m s
  | 0, s => rfl
  | m + 1, s => by
    have ih := fun s => loopN_L keep n c h k m s
    simp only [loopN, exec_L C l callF c _ _ h, ih]
end
end Go.Proofs.Ytdjdbjcapenjeaa.Dx

/- Functions run in place, loops of so many rounds at most. -/
namespace Go.Proofs.Ytdjdbjcapenjeaa.Dx
open Go
set_option linter.unusedVariables false

/-- The bodies of all loops. -/
def loopsOf : Code → List Code
  | .seq a b => loopsOf a ++ loopsOf b
  | .cond _ a b => loopsOf a ++ loopsOf b
  | .block _ c => loopsOf c
  | .loop c => c :: loopsOf c
  | _ => []
def bodyAt : List Code → Nat → Code
  | [], _ => .skip
  | c :: r, i => cond (Nat.beq (firstRegion c) i) c (bodyAt r i)
def bodyOf (fn : Func) : Code := match fn.body with | some c => c | none => .skip
/-- A loop's row: its level (a loop's inner ones lie lower), the slots that live on, the rounds. -/
structure LRow where
  lev : Nat
  keep : List Nat
  m : Nat
/-- The table's loops up to that level. -/
def lvl (C : Ctx) (l : List (Nat × LRow)) (body : Code) (callF : FuncId → CF) : Nat → Ctx
  | 0 => C
  | j + 1 => C.withL fun r => match seek l r with
    | some w => cond (Nat.ble w.lev j) ((lvl C l body callF j).loops r) (cond (Nat.beq w.lev (j + 1)) (some (w.keep, fun k n s => loopN (lvl C l body callF j) callF w.keep n (bodyAt (loopsOf body) r) k w.m s)) none)
    | none => none
def distinct : List Nat → Bool
  | [] => true
  | x :: r => !memb x r && distinct r
/-- Inner loops lie lower. -/
def lowOK (l : List (Nat × LRow)) : List Code → Bool
  | [] => true
  | c :: r => (match seek l (firstRegion c) with
    | some w => (loopIds c).all fun i => (match seek l i with
      | some v => Nat.blt v.lev w.lev
      | none => true)
    | none => true) && lowOK l r
def tblOK (l : List (Nat × LRow)) (body : Code) : Bool := distinct ((loopsOf body).map firstRegion) && lowOK l (loopsOf body)

theorem mem_memb : ∀ (b : Nat) (l : List Nat), b ∈ l → memb b l = true
  | b, [], h => by cases h
  | b, x :: r, h => by
    simp only [memb]
    cases hx : Nat.beq x b with
    | true => rfl
    | false =>
      rcases List.mem_cons.1 h with e | h
      · rw [e] at hx; simp at hx
      · exact mem_memb b r h
theorem bodyAt_in : ∀ (cs : List Code) (c : Code), distinct (cs.map firstRegion) = true → c ∈ cs → bodyAt cs (firstRegion c) = c
  | [], c, _, h => by cases h
  | d :: r, c, hd, h => by
    simp only [List.map_cons, distinct, Bool.and_eq_true] at hd
    rcases List.mem_cons.1 h with rfl | h
    · simp [bodyAt]
    · have hne : Nat.beq (firstRegion d) (firstRegion c) = false := by
        cases hb : Nat.beq (firstRegion d) (firstRegion c) with
        | false => rfl
        | true =>
          have e := Nat.eq_of_beq_eq_true hb
          have : memb (firstRegion d) (r.map firstRegion) = true := mem_memb _ _ (by rw [e]; exact List.mem_map_of_mem h)
          rw [this] at hd
          cases hd.1
      simp only [bodyAt, hne, cond_false]
      exact bodyAt_in r c hd.2 h
section
variable {C : Ctx} {l : List (Nat × LRow)} {body : Code} {callF : FuncId → CF}
theorem loops_zero (hC : ∀ r, C.loops r = none) {r : Nat} : ∀ j, (∀ w, seek l r = some w → w.lev = 0 ∨ j < w.lev) → (lvl C l body callF j).loops r = none
  | 0, _ => hC r
  | j + 1, h => by
    simp only [lvl, Ctx.withL]
    cases hs : seek l r with
    | none => rfl
    | some w =>
      simp only
      cases hb : Nat.ble w.lev j with
      | true =>
        refine loops_zero hC j fun v hv => ?_
        rw [hs] at hv
        cases hv
        rcases h w hs with h0 | h0
        · exact .inl h0
        · have := Nat.le_of_ble_eq_true hb
          omega
      | false =>
        cases he : Nat.beq w.lev (j + 1) with
        | false => rfl
        | true =>
          have e := Nat.eq_of_beq_eq_true he
          rcases h w hs with h0 | h0 <;> omega
theorem loops_low {r : Nat} {w : LRow} (hs : seek l r = some w) (h1 : 1 ≤ w.lev) : ∀ j, w.lev ≤ j → (lvl C l body callF j).loops r = some (w.keep, fun k n s => loopN (lvl C l body callF (w.lev - 1)) callF w.keep n (bodyAt (loopsOf body) r) k w.m s)
  | 0, h => by omega
  | j + 1, h => by
    simp only [lvl, Ctx.withL, hs]
    cases hb : Nat.ble w.lev j with
    | true => exact loops_low hs h1 j (Nat.le_of_ble_eq_true hb)
    | false =>
      have hn : ¬ w.lev ≤ j := fun h => by rw [Nat.ble_eq_true_of_le h] at hb; cases hb
      have e : w.lev = j + 1 := by omega
      simp [e]
theorem lvl_eq (j : Nat) (x : Nat → Option (List Nat × (K → Nat → St → Prop))) : (lvl C l body callF j).withL x = C.withL x := by
  cases j <;> rfl
theorem lvl_cuts (j : Nat) : (lvl C l body callF j).cuts = C.cuts := by
  cases j <;> rfl
theorem lvl_self (C : Ctx) : C.withL C.loops = C := rfl
theorem low_in : ∀ (cs : List Code) (c : Code), lowOK l cs = true → c ∈ cs → ∀ w, seek l (firstRegion c) = some w → ∀ i ∈ loopIds c, ∀ v, seek l i = some v → v.lev < w.lev
  | [], c, _, h => by cases h
  | d :: r, c, hl, h => by
    simp only [lowOK, Bool.and_eq_true] at hl
    rcases List.mem_cons.1 h with rfl | h
    · intro w hw i hi v hv
      have h1 := hl.1
      rw [hw] at h1
      have h2 := List.all_eq_true.1 h1 i hi
      rw [hv] at h2
      simpa using h2
    · exact low_in r c hl.2 h
theorem loopsOK_of (hC : ∀ r, C.loops r = none) (hK : ∀ r, C.cuts r = none) (hT : tblOK l body = true) (J : Nat) : ∀ c, (∀ c' ∈ loopsOf c, c' ∈ loopsOf body) → LoopsOK (lvl C l body callF J) callF c
  | .seq a b, h => ⟨loopsOK_of hC hK hT J a fun c hc => h c (List.mem_append_left _ hc), loopsOK_of hC hK hT J b fun c hc => h c (List.mem_append_right _ hc)⟩
  | .cond _ a b, h => ⟨loopsOK_of hC hK hT J a fun c hc => h c (List.mem_append_left _ hc), loopsOK_of hC hK hT J b fun c hc => h c (List.mem_append_right _ hc)⟩
  | .block _ c, h => loopsOK_of hC hK hT J c h
  | .loop c, h => by
    refine ⟨fun keep L hL k n s hk => ?_, loopsOK_of hC hK hT J c fun c' hc => h c' (List.mem_cons_of_mem _ hc)⟩
    have hin := h c (List.mem_cons_self ..)
    simp only [tblOK, Bool.and_eq_true] at hT
    by_cases hz : ∀ w, seek l (firstRegion c) = some w → w.lev = 0 ∨ J < w.lev
    · rw [loops_zero hC J hz] at hL
      cases hL
    · have hz' : ∃ w, seek l (firstRegion c) = some w ∧ 1 ≤ w.lev ∧ w.lev ≤ J := by
        apply Classical.byContradiction
        intro hn
        exact hz fun w hw => by
          apply Classical.byContradiction
          intro hh
          exact hn ⟨w, hw, by omega, by omega⟩
      obtain ⟨w, hw, h1, h2⟩ := hz'
      rw [loops_low hw h1 J h2] at hL
      cases hL
      refine ⟨w.m, ?_⟩
      rw [bodyAt_in _ _ hT.1 hin] at hk
      have hag : ∀ i ∈ loopIds c, (lvl C l body callF J).loops i = (lvl C l body callF (w.lev - 1)).loops i := by
        intro i hi
        by_cases hv : ∃ v, seek l i = some v ∧ 1 ≤ v.lev
        · obtain ⟨v, hv, hv1⟩ := hv
          have := low_in _ _ hT.2 hin w hw i hi v hv
          rw [loops_low hv hv1 J (by omega), loops_low hv hv1 (w.lev - 1) (by omega)]
        · have hv0 : ∀ v, seek l i = some v → v.lev = 0 := fun v h => by
            apply Classical.byContradiction
            intro hh
            exact hv ⟨v, h, by omega⟩
          rw [loops_zero hC J fun v h => .inl (hv0 v h), loops_zero hC (w.lev - 1) fun v h => .inl (hv0 v h)]
      have e := loopN_L (lvl C l body callF (w.lev - 1)) (lvl C l body callF J).loops callF w.keep n c hag k w.m s
      have e2 : (lvl C l body callF (w.lev - 1)).withL (lvl C l body callF J).loops = lvl C l body callF J := by
        rw [lvl_eq, ← lvl_eq (l := l) (body := body) (callF := callF) J]
        exact lvl_self _
      rw [e2] at e
      rw [e]
      exact hk
  | .skip, _ => trivial
  | .region _ _ _, _ => fun keep n F hF => by rw [lvl_cuts, hK] at hF; cases hF
  | .exit _, _ => trivial
  | .label _, _ => trivial
  | .ret, _ => trivial
  | .goto _, _ => trivial
  | .rangeFunc _ _ _ _, _ => trivial
  | .scope _, _ => trivial
  | .refuse _, _ => trivial
end
/-- Functions run in place, to that depth. -/
def inl (C : Ctx) (fns : List (Nat × Func)) (tbl : List (Nat × List (Nat × LRow))) (J : Nat) (g0 : FuncId → CF) : Nat → FuncId → CF
  | 0, g => g0 g
  | d + 1, g => match seek fns g with
    | some fn => fun args H κ => runFn (lvl C ((seek tbl g).getD []) (bodyOf fn) (inl C fns tbl J g0 d) J) (inl C fns tbl J g0 d) fn args H κ
    | none => g0 g
def fnOK (P : Program) (tbl : List (Nat × List (Nat × LRow))) (p : Nat × Func) : Prop :=
  P.funcs[p.1]? = some p.2 ∧ p.2.body.isSome = true ∧ tblOK ((seek tbl p.1).getD []) (bodyOf p.2) = true
theorem lvl_fields (C : Ctx) (l) (body) (callF) (j : Nat) : (lvl C l body callF j).ti = C.ti ∧ (lvl C l body callF j).meth = C.meth ∧ (lvl C l body callF j).can = C.can ∧ (lvl C l body callF j).pur = C.pur := by
  cases j <;> exact ⟨rfl, rfl, rfl, rfl⟩
end Go.Proofs.Ytdjdbjcapenjeaa.Dx

/- Functions run in place are contracts. -/
namespace Go.Proofs.Ytdjdbjcapenjeaa.Dx
open Go
theorem tab_lvl {C : Ctx} {P : Program} (h : TabOK C P) (l) (body) (callF) (j : Nat) : TabOK (lvl C l body callF j) P := by
  cases j with
  | zero => exact h
  | succ j => exact ⟨h.desc, h.info, h.zsize, h.meth, h.can, h.mixed⟩
theorem inl_sound' {C : Ctx} {P : Program} (hTab : TabOK C P) (hC : ∀ r, C.loops r = none) (hK : ∀ r, C.cuts r = none) {fns : List (Nat × Func)} {tbl : List (Nat × List (Nat × LRow))} (hfn : ∀ p ∈ fns, fnOK P tbl p) (J : Nat) {g0 : FuncId → CF}
    (h0 : ∀ g, SoundF P g (g0 g)) (hP : ∀ g ts F, C.pur g = some (ts, F) → SoundP P g F) : ∀ d g, SoundF P g (inl C fns tbl J g0 d g)
  | 0, g => h0 g
  | d + 1, g => by
    simp only [inl]
    cases hs : seek fns g with
    | none => exact h0 g
    | some fn =>
      obtain ⟨h1, h2, h3⟩ := hfn _ (seek_in _ _ _ hs)
      obtain ⟨c, hc⟩ := Option.isSome_iff_exists.1 h2
      have hb : bodyOf fn = c := by simp only [bodyOf]; rw [hc]
      refine run_sound (tab_lvl hTab _ _ _ _) (inl_sound' hTab hC hK hfn J h0 hP d) (fun q ts F h => hP q ts F ?_) h1 hc ?_
      · rw [← (lvl_fields C ((seek tbl g).getD []) (bodyOf fn) (inl C fns tbl J g0 d) J).2.2.2]; exact h
      · exact loopsOK_of hC hK h3 J c fun c' hc' => by rw [hb]; exact hc'
theorem inl_sound {C : Ctx} {P : Program} (hTab : TabOK C P) (hC : ∀ r, C.loops r = none) {fns : List (Nat × Func)} {tbl : List (Nat × List (Nat × LRow))} (hfn : ∀ p ∈ fns, fnOK P tbl p) (J : Nat) {g0 : FuncId → CF}
    (h0 : ∀ g, SoundF P g (g0 g)) (hP : ∀ g ts F, C.pur g = some (ts, F) → SoundP P g F) (d : Nat) (g : FuncId) (hK : ∀ r, C.cuts r = none := by exact fun _ => rfl) : SoundF P g (inl C fns tbl J g0 d g) := inl_sound' hTab hC hK hfn J h0 hP d g
end Go.Proofs.Ytdjdbjcapenjeaa.Dx

/- Answers by value; getters for the state at a loop's head. -/
namespace Go.Proofs.Ytdjdbjcapenjeaa.Dx
open Go
set_option linter.unusedVariables false

def coSV (H : List HObj) : List Ty → List SV → List Prop × Option (List SV)
  | [], [] => ([], some [])
  | t :: ts, s :: r => match coU H t s.1 s.2, coSV H ts r with
    | (c, some y), (c', some l) => (c ++ c', some (⟨t, y⟩ :: l))
    | (c, _), (c', _) => (c ++ c', none)
  | _, _ => ([], none)
/-- The answer, by value. -/
def coRes (H : List HObj) (ts : List Ty) (r : AV) (k : AV → Prop) : Prop := match r with
  | .v τ x => match ts with
    | [t] => match coU H t τ x with
      | (c, some y) => All c (k (.v t y))
      | _ => False
    | _ => False
  | .tup l => match coSV H ts l with
    | (c, some l') => All c (k (.tup l'))
    | _ => False
  | .dead => False

section
variable {B : Base} {I : Nat → Option Obj} {ρ : Nat → Place} {H : List HObj} {w : World} {P : Program}
theorem coSV_ok (hinv : Inv B I ρ H w) {ρ' : Nat → Place} : ∀ (ts : List Ty) (l : List SV) (vs : List Value) (c : List Prop) (l' : List SV), Vals I ρ l vs → coSV H ts l = (c, some l') → AllP c → Vals (lent I ρ H w) ρ' l' vs
  | [], [], vs, c, l', h, hco, _ => by cases hco; exact h
  | [], a :: r, vs, c, xs, h, hco, _ => by simp [coSV] at hco
  | t :: ts, [], vs, c, xs, h, hco, _ => by simp [coSV] at hco
  | t :: ts, ⟨τ, x⟩ :: r, vs, c, xs, h, hco, hc => by
    obtain ⟨v, vs', rfl, ⟨us, h1, h2⟩, h3⟩ := h
    simp only [coSV] at hco
    cases q1 : coU H t τ x with
    | mk c1 y =>
      cases q2 : coSV H ts r with
      | mk c2 l =>
        rw [q1, q2] at hco
        cases y with
        | none => cases l <;> simp at hco
        | some y =>
          cases l with
          | none => simp at hco
          | some l =>
            simp only at hco
            cases hco
            obtain ⟨k1, k2⟩ := allP_app hc
            refine ⟨v, vs', rfl, ⟨us, coU_ok hinv t τ x us c1 y h1 q1 k1, ?_⟩, coSV_ok hinv ts r vs' c2 l h3 q2 k2⟩
            rw [coU_agg t τ x c1 y q1]
            exact h2
theorem coRes_ok (hinv : Inv B I ρ H w) {ρ' : Nat → Place} {ts : List Ty} {r : AV} {k : AV → Prop} {v : Value} (h : coRes H ts r k) (hv : AVRel I ρ r v) : ∃ r', k r' ∧ AVRel (lent I ρ H w) ρ' r' v := by
  cases r with
  | dead => exact h.elim
  | tup l =>
    simp only [coRes] at h
    split at h
    · rename_i c l' q
      obtain ⟨h1, h2⟩ := all_split h
      obtain ⟨vs, e, h3⟩ := hv
      exact ⟨_, h2, vs, e, coSV_ok hinv ts l _ c l' h3 q h1⟩
    · exact h.elim
  | v τ x =>
    simp only [coRes] at h
    split at h
    · rename_i t
      split at h
      · rename_i c y q
        obtain ⟨h1, h2⟩ := all_split h
        obtain ⟨us, g1, g2⟩ := hv
        refine ⟨_, h2, us, coU_ok hinv t τ x us c y g1 q h1, ?_⟩
        rw [coU_agg t τ x c y q]
        exact g2
      · exact h.elim
    · exact h.elim
/-- A contract that ends in one answer, handed on by value, as a function that only computes. -/
theorem soundP_frz {f : FuncId} {F : CF} (h : SoundF P f F) (ts : List Ty) {G : List AV → PV} (hG : ∀ args, AllP (G args).1 → F args [] fun r H => coRes H ts r fun r' => r' = (G args).2) : SoundP P f G := by
  intro args hc B I ρ w vals hinv hargs
  refine (h args [] _ (hG args hc) B I ρ w vals hinv hargs).mono ?_
  rintro e w' ⟨r, v, H', J, ρ', rfl, hk, h1, h2, h3, h4⟩
  obtain ⟨r', rfl, h5⟩ := coRes_ok (ρ' := ρ) h3 hk h2
  have h00 : ∀ b, ρ b = .none := fun b => hinv.fresh b (Nat.zero_le _)
  have hl := inv_lent h3
  refine ⟨v, lent J ρ' H' w', rfl, h1.trans (sub_lent h3), h5, ⟨hl.imm, hl.dis, hl.frm, fun i o hi => by simp at hi, fun i o hi => by simp at hi, fun i j oi oj hi => by simp at hi, fun b _ => h00 b, hl.os, hl.tape, hl.output, h3.size⟩⟩
end

/-! ### Getters -/
def gV (τ : Ty) : AV → Option τ.D
  | .v σ y => if h : σ = τ then some (h ▸ y) else none
  | _ => none
def gN : AV → Option Nat
  | .v .ref (.sl _ _ n) => some n
  | _ => none
def gO : AV → Option Nat
  | .v .ref (.sl _ o _) => some o
  | _ => none
def gRow (τ : Ty) : Option HObj → Option (List τ.D)
  | some (.row σ xs _) => if h : σ = τ then some (h ▸ xs) else none
  | _ => none
def gVar (τ : Ty) : Option HObj → Option τ.D
  | some (.var σ x _) => if h : σ = τ then some (h ▸ x) else none
  | _ => none
def gMap (τ : Ty) : Option HObj → Option (List (Int × τ.D))
  | some (.map (.int q) σ es) => if h : σ = τ then some (h ▸ es) else none
  | _ => none
end Go.Proofs.Ytdjdbjcapenjeaa.Dx

/- Loops by contracts. -/
namespace Go.Proofs.Ytdjdbjcapenjeaa.Dx
open Go
set_option linter.unusedVariables false

def eqNats : List Nat → List Nat → Bool
  | [], [] => true
  | a :: r, b :: s => Nat.beq a b && eqNats r s
  | _, _ => false
theorem eqNats_eq : ∀ (a b : List Nat), eqNats a b = true → a = b
  | [], [], _ => rfl
  | [], _ :: _, h => by cases h
  | _ :: _, [], h => by cases h
  | a :: r, b :: s, h => by
    simp only [eqNats, Bool.and_eq_true] at h
    rw [Nat.eq_of_beq_eq_true h.1, eqNats_eq r s h.2]

/-- A loop's contract: the state at its head is of a form, and so is what is asked. -/
def mkL {V : Type} (dec : St → Option V) (st : V → St) (base n : Nat) (lims : List Nat) (Q : V → (Nat → St → Prop) → (St → Prop) → Prop) : K → Nat → St → Prop := fun k n' s =>
  cond (Nat.beq n' n && Nat.beq k.base base && eqNats k.lims lims) (match dec s with | some v => s = st v ∧ Q v k.exit k.ret | none => False) False

section
variable {C : Ctx} {callF : FuncId → CF}
theorem loopN_normal (keep : List Nat) (n : Nat) (c : Code) (base : Nat) (lims : List Nat) (N N' : St → Prop) (X : Nat → St → Prop) (R : St → Prop) : ∀ (m : Nat) (s : St), loopN C callF keep n c ⟨base, lims, N, X, R⟩ m s = loopN C callF keep n c ⟨base, lims, N', X, R⟩ m s
  | 0, _ => rfl
  | m + 1, s => by
    have ih := funext fun s => loopN_normal keep n c base lims N N' X R m s
    simp only [loopN, ih]
/-- One round more. -/
theorem loopN_succ (keep : List Nat) (n : Nat) (c : Code) (base : Nat) (lims : List Nat) (N : St → Prop) (X : Nat → St → Prop) (R : St → Prop) (m : Nat) (s : St) :
    loopN C callF keep n c ⟨base, lims, N, X, R⟩ (m + 1) s = exec C callF c ⟨base, n :: lims, fun s' => cond (Nat.ble n s'.H.length) (loopN C callF keep n c ⟨base, lims, N, X, R⟩ m (scrub keep n s')) False, X, R⟩ s := rfl
theorem mkL_ok {V : Type} {dec : St → Option V} {st : V → St} {base n : Nat} {lims : List Nat} {Q : V → (Nat → St → Prop) → (St → Prop) → Prop} {keep : List Nat} {c : Code}
    (h : ∀ v X R, Q v X R → ∃ m, loopN C callF keep n c ⟨base, lims, fun _ => False, X, R⟩ m (st v)) : ∀ k n' s, mkL dec st base n lims Q k n' s → ∃ m, loopN C callF keep n' c k m s := by
  intro k n' s hk
  unfold mkL at hk
  cases hb : (Nat.beq n' n && Nat.beq k.base base && eqNats k.lims lims) with
  | false => rw [hb] at hk; exact hk.elim
  | true =>
    rw [hb, cond_true] at hk
    simp only [Bool.and_eq_true] at hb
    obtain ⟨⟨h1, h2⟩, h3⟩ := hb
    have h1 := Nat.eq_of_beq_eq_true h1
    have h2 := Nat.eq_of_beq_eq_true h2
    have h3 := eqNats_eq _ _ h3
    obtain ⟨b, l, N, X, R⟩ := k
    simp only at h2 h3
    subst h1 h2 h3
    split at hk
    · rename_i v hv
      obtain ⟨rfl, hq⟩ := hk
      obtain ⟨m, hm⟩ := h v X R hq
      exact ⟨m, by rw [loopN_normal keep n' c b l N (fun _ => False)]; exact hm⟩
    · exact hk.elim
/-- All loops by their contracts. -/
def regsOf : Code → List Code
  | .seq a b => regsOf a ++ regsOf b
  | .cond _ a b => regsOf a ++ regsOf b
  | .block _ c => regsOf c
  | .loop c => regsOf c
  | .region id ops draw => [.region id ops draw]
  | _ => []
def regRunC (C : Ctx) (callF : FuncId → CF) (c : Code) (κ : St → Prop) (s : St) : Prop := match c with
  | .region id ops draw => regRun C callF id ops draw κ s
  | _ => False
theorem loopsOK_both {tbl : List (Nat × (List Nat × (K → Nat → St → Prop)))} {body : Code} (hC : ∀ i, C.loops i = seek tbl i) (hd : distinct ((loopsOf body).map firstRegion) = true)
    (h : ∀ p ∈ tbl, ∀ k n s, p.2.2 k n s → ∃ m, loopN C callF p.2.1 n (bodyAt (loopsOf body) p.1) k m s)
    (hr : ∀ id ops draw, (Code.region id ops draw) ∈ regsOf body → ∀ keep n F, C.cuts id = some (keep, n, F) → ∀ κ s, F s κ → regRun C callF id ops draw (cutK keep n κ) s) : LoopsOK C callF body := by
  have key : ∀ c, (∀ c' ∈ loopsOf c, c' ∈ loopsOf body) → (∀ c' ∈ regsOf c, c' ∈ regsOf body) → LoopsOK C callF c := by
    intro c
    induction c with
    | seq a b iha ihb => exact fun hc hg => ⟨iha (fun c h => hc c (List.mem_append_left _ h)) (fun c h => hg c (List.mem_append_left _ h)), ihb (fun c h => hc c (List.mem_append_right _ h)) (fun c h => hg c (List.mem_append_right _ h))⟩
    | cond o a b iha ihb => exact fun hc hg => ⟨iha (fun c h => hc c (List.mem_append_left _ h)) (fun c h => hg c (List.mem_append_left _ h)), ihb (fun c h => hc c (List.mem_append_right _ h)) (fun c h => hg c (List.mem_append_right _ h))⟩
    | block id c ih => exact fun hc hg => ih hc hg
    | loop c ih =>
      intro hc hg
      refine ⟨fun keep L hL k n s hk => ?_, ih (fun c' h => hc c' (List.mem_cons_of_mem _ h)) hg⟩
      rw [hC] at hL
      have h1 := h _ (seek_in _ _ _ hL) k n s hk
      rwa [bodyAt_in _ _ hd (hc c (List.mem_cons_self ..))] at h1
    | region id ops draw => exact fun _ hg => hr id ops draw (hg _ (List.mem_singleton.2 rfl))
    | _ => exact fun _ _ => trivial
  exact key body (fun _ h => h) fun _ h => h
theorem loopsOK_seek {tbl : List (Nat × (List Nat × (K → Nat → St → Prop)))} {body : Code} (hC : ∀ i, C.loops i = seek tbl i) (hd : distinct ((loopsOf body).map firstRegion) = true)
    (h : ∀ p ∈ tbl, ∀ k n s, p.2.2 k n s → ∃ m, loopN C callF p.2.1 n (bodyAt (loopsOf body) p.1) k m s) (hK : ∀ i, C.cuts i = none := by exact fun _ => rfl) : LoopsOK C callF body :=
  loopsOK_both hC hd h fun id ops draw _ keep n F hF => by rw [hK] at hF; cases hF
abbrev CutRow := Nat × (List Nat × Nat × (St → (St → Prop) → Prop))
theorem loopsOK_cuts {tbl : List (Nat × (List Nat × (K → Nat → St → Prop)))} {ctbl : List CutRow} {body : Code} (hC : ∀ i, C.loops i = seek tbl i) (hd : distinct ((loopsOf body).map firstRegion) = true)
    (h : ∀ p ∈ tbl, ∀ k n s, p.2.2 k n s → ∃ m, loopN C callF p.2.1 n (bodyAt (loopsOf body) p.1) k m s)
    (hK : ∀ i, C.cuts i = seek ctbl i) (hdr : distinct ((regsOf body).map firstRegion) = true)
    (hr : ∀ p ∈ ctbl, ∀ κ s, p.2.2.2 s κ → regRunC C callF (bodyAt (regsOf body) p.1) (cutK p.2.1 p.2.2.1 κ) s) : LoopsOK C callF body := by
  refine loopsOK_both hC hd h fun id ops draw hm keep n F hF κ s hs => ?_
  rw [hK] at hF
  have h1 := hr _ (seek_in _ _ _ hF) κ s hs
  rwa [show bodyAt (regsOf body) id = Code.region id ops draw from bodyAt_in _ _ hdr hm] at h1
/-- A statement's contract, by the form of the state ahead of it. -/
def mkX {V : Type} (dec : St → Option V) (st : V → St) (nx : V → (St → Prop) → Prop) : St → (St → Prop) → Prop := fun s κ => match dec s with
  | some v => s = st v ∧ nx v κ
  | none => False
theorem mkX_ok {V : Type} {dec : St → Option V} {st : V → St} {nx : V → (St → Prop) → Prop} {R : (St → Prop) → St → Prop} (h : ∀ v κ, nx v κ → R κ (st v)) : ∀ κ s, mkX dec st nx s κ → R κ s := by
  intro κ s hs
  unfold mkX at hs
  split at hs
  · rw [hs.1]; exact h _ _ hs.2
  · exact hs.elim
end

/-! ### Contracts of functions that only compute -/
def pg1 (a : Ty) (pre : a.D → List Prop) (f : a.D → AV) : List AV → PV
  | [.v σ x] => if h : σ = a then (pre (h ▸ x), f (h ▸ x)) else bad
  | _ => bad
def pg2 (a b : Ty) (pre : a.D → b.D → List Prop) (f : a.D → b.D → AV) : List AV → PV
  | [.v σ x, .v σ' y] => if h : σ = a then if h' : σ' = b then (pre (h ▸ x) (h' ▸ y), f (h ▸ x) (h' ▸ y)) else bad else bad
  | _ => bad
def pg3 (a b c : Ty) (pre : a.D → b.D → c.D → List Prop) (f : a.D → b.D → c.D → AV) : List AV → PV
  | [.v σ x, .v σ' y, .v σ'' z] => if h : σ = a then if h' : σ' = b then if h'' : σ'' = c then (pre (h ▸ x) (h' ▸ y) (h'' ▸ z), f (h ▸ x) (h' ▸ y) (h'' ▸ z)) else bad else bad else bad
  | _ => bad
def pg4 (a b c d : Ty) (pre : a.D → b.D → c.D → d.D → List Prop) (f : a.D → b.D → c.D → d.D → AV) : List AV → PV
  | [.v σ x, .v σ' y, .v σ'' z, .v σ3 u] => if h : σ = a then if h' : σ' = b then if h'' : σ'' = c then if h3 : σ3 = d then (pre (h ▸ x) (h' ▸ y) (h'' ▸ z) (h3 ▸ u), f (h ▸ x) (h' ▸ y) (h'' ▸ z) (h3 ▸ u)) else bad else bad else bad else bad
  | _ => bad
theorem pg1_use {a : Ty} {pre : a.D → List Prop} {f : a.D → AV} {P : List AV → PV → Prop} (h : ∀ x, AllP (pre x) → P [.v a x] (pre x, f x)) : ∀ args, AllP (pg1 a pre f args).1 → P args (pg1 a pre f args) := by
  intro args hc
  unfold pg1 at hc ⊢
  split at hc
  · split at hc
    · rename_i e; subst e; rw [dif_pos rfl]; exact h _ hc
    · exact hc.1.elim
  · exact hc.1.elim
theorem pg2_use {a b : Ty} {pre : a.D → b.D → List Prop} {f : a.D → b.D → AV} {P : List AV → PV → Prop} (h : ∀ x y, AllP (pre x y) → P [.v a x, .v b y] (pre x y, f x y)) : ∀ args, AllP (pg2 a b pre f args).1 → P args (pg2 a b pre f args) := by
  intro args hc
  unfold pg2 at hc ⊢
  split at hc
  · split at hc
    · rename_i e
      split at hc
      · rename_i e'; subst e; subst e'; rw [dif_pos rfl, dif_pos rfl]; exact h _ _ hc
      · exact hc.1.elim
    · exact hc.1.elim
  · exact hc.1.elim
theorem pg3_use {a b c : Ty} {pre : a.D → b.D → c.D → List Prop} {f : a.D → b.D → c.D → AV} {P : List AV → PV → Prop} (h : ∀ x y z, AllP (pre x y z) → P [.v a x, .v b y, .v c z] (pre x y z, f x y z)) : ∀ args, AllP (pg3 a b c pre f args).1 → P args (pg3 a b c pre f args) := by
  intro args hc
  unfold pg3 at hc ⊢
  split at hc
  · split at hc
    · rename_i e
      split at hc
      · rename_i e'
        split at hc
        · rename_i e''; subst e; subst e'; subst e''; rw [dif_pos rfl, dif_pos rfl, dif_pos rfl]; exact h _ _ _ hc
        · exact hc.1.elim
      · exact hc.1.elim
    · exact hc.1.elim
  · exact hc.1.elim
theorem pg4_use {a b c d : Ty} {pre : a.D → b.D → c.D → d.D → List Prop} {f : a.D → b.D → c.D → d.D → AV} {P : List AV → PV → Prop} (h : ∀ x y z u, AllP (pre x y z u) → P [.v a x, .v b y, .v c z, .v d u] (pre x y z u, f x y z u)) : ∀ args, AllP (pg4 a b c d pre f args).1 → P args (pg4 a b c d pre f args) := by
  intro args hc
  unfold pg4 at hc ⊢
  split at hc
  · split at hc
    · rename_i e
      split at hc
      · rename_i e'
        split at hc
        · rename_i e''
          split at hc
          · rename_i e3; subst e; subst e'; subst e''; subst e3; rw [dif_pos rfl, dif_pos rfl, dif_pos rfl, dif_pos rfl]; exact h _ _ _ _ hc
          · exact hc.1.elim
        · exact hc.1.elim
      · exact hc.1.elim
    · exact hc.1.elim
  · exact hc.1.elim
/-- A function that only computes, by its run. -/
theorem soundP_run {C : Ctx} {P : Program} {callF : FuncId → CF} (hTab : TabOK C P) (hF : ∀ g, SoundF P g (callF g)) (hP : ∀ g ts F, C.pur g = some (ts, F) → SoundP P g F) {f : FuncId} {fn : Func} (hf : P.funcs[f]? = some fn) (hb : fn.body.isSome = true) (hL : LoopsOK C callF (bodyOf fn)) (ts : List Ty) {G : List AV → PV}
    (hG : ∀ args, AllP (G args).1 → runFn C callF fn args [] fun r H => coRes H ts r fun r' => r' = (G args).2) : SoundP P f G := by
  obtain ⟨c, hc⟩ := Option.isSome_iff_exists.1 hb
  have e : bodyOf fn = c := by simp only [bodyOf]; rw [hc]
  rw [e] at hL
  exact soundP_frz (run_sound hTab hF hP hf hc hL) ts hG
/-- The contracts proved so far. -/
def purOf (l : List (Nat × (List Ty × (List AV → PV)))) (g : FuncId) : Option (List Ty × (List AV → PV)) := seek l g
theorem purOf_ok {P : Program} {l : List (Nat × (List Ty × (List AV → PV)))} (h : ∀ p ∈ l, SoundP P p.1 p.2.2) : ∀ g ts F, purOf l g = some (ts, F) → SoundP P g F := fun g ts F hg => h _ (seek_in _ _ _ hg)
theorem callsOK {P : Program} {l : List (Nat × CF)} (h : ∀ p ∈ l, SoundF P p.1 p.2) : ∀ g, SoundF P g (match seek l g with | some F => F | none => fun _ _ _ => False) := by
  intro g
  split
  · rename_i F hF; exact h _ (seek_in _ _ _ hF)
  · exact soundF_none g
def rN : Ref → Nat
  | .sl _ _ n => n
  | _ => 0
def rO : Ref → Nat
  | .sl _ o _ => o
  | _ => 0
def rI (k : Nat) : Ref → Nat
  | .ptr _ p => match p[k]? with
    | some (.idx i _) => i
    | _ => 0
  | _ => 0
end Go.Proofs.Ytdjdbjcapenjeaa.Dx

/- Loops by a measure; numbers. -/
namespace Go.Proofs.Ytdjdbjcapenjeaa.Dx
open Go
set_option linter.unusedVariables false

section
variable {C : Ctx} {callF : FuncId → CF}
/-- A loop whose measure falls. -/
theorem loop_ind {V : Type} {st : V → St} {keep : List Nat} {n : Nat} {c : Code} {base : Nat} {lims : List Nat} {X : Nat → St → Prop} {R : St → Prop} (Q : V → Prop) (μ : V → Nat)
    (h : ∀ v, Q v → ∀ N : St → Prop, (∀ v', Q v' → μ v' < μ v → N (st v')) → exec C callF c ⟨base, n :: lims, fun s' => cond (Nat.ble n s'.H.length) (N (scrub keep n s')) False, X, R⟩ (st v)) :
    ∀ v, Q v → ∃ m, loopN C callF keep n c ⟨base, lims, fun _ => False, X, R⟩ m (st v) := by
  have key : ∀ m v, Q v → μ v < m → loopN C callF keep n c ⟨base, lims, fun _ => False, X, R⟩ m (st v) := by
    intro m
    induction m with
    | zero => intro v _ h; omega
    | succ m ih =>
      intro v hq hm
      rw [loopN_succ]
      exact h v hq _ fun v' hq' hlt => ih v' hq' (by omega)
  exact fun v hq => ⟨μ v + 1, key _ v hq (Nat.lt_succ_self _)⟩
end
theorem bif_i {c : Bool} {A B : Prop} (h1 : c = true → A) (h2 : c = false → B) : bif c then A else B := by
  cases c with
  | true => exact h1 rfl
  | false => exact h2 rfl
theorem bif_d {p : Prop} [Decidable p] {A B : Prop} (h1 : p → A) (h2 : ¬ p → B) : bif decide p then A else B := by
  by_cases h : p
  · rw [decide_eq_true h]; exact h1 h
  · rw [decide_eq_false h]; exact h2 h
theorem bif_t {c : Bool} {A B : Prop} (hc : c = true) (h : A) : bif c then A else B := by rw [hc]; exact h
theorem bif_f {c : Bool} {A B : Prop} (hc : c = false) (h : B) : bif c then A else B := by rw [hc]; exact h
theorem bif_ne {α : Type} [DecidableEq α] {x y : α} {A B : Prop} (h1 : x ≠ y → A) (h2 : x = y → B) : bif x != y then A else B := by
  by_cases h : x = y
  · have : (x != y) = false := by simp [h]
    rw [this]; exact h2 h
  · have : (x != y) = true := by simp [h]
    rw [this]; exact h1 h
theorem bif_eq {α : Type} [DecidableEq α] {x y : α} {A B : Prop} (h1 : x = y → A) (h2 : x ≠ y → B) : bif x == y then A else B := by
  by_cases h : x = y
  · have : (x == y) = true := by simp [h]
    rw [this]; exact h1 h
  · have : (x == y) = false := by simp [h]
    rw [this]; exact h2 h
theorem w64 {x : Int} (h1 : -9223372036854775808 ≤ x) (h2 : x ≤ 9223372036854775807) : IntKind.i64.wrap x = x := IntWalk.i64_in _ (by omega)
/-- Lengths that a machine holds. -/
abbrev LB : Nat := 1073741824
theorem w64n {n : Nat} (h : n ≤ LB) : IntKind.i64.wrap ((n : Int) + 1) = ((n + 1 : Nat) : Int) := by
  have : LB = 1073741824 := rfl
  rw [w64 (by omega) (by omega)]; omega
theorem drop_cons {α : Type} {l : List α} {i : Nat} (h : i < l.length) (d : α) : l.drop i = l.getD i d :: l.drop (i + 1) := by
  rw [List.drop_eq_getElem_cons h, List.getD_eq_getElem?_getD, List.getElem?_eq_getElem h]; rfl
/-! ### Contracts that name memory -/
def mkC {V : Type} (dec : St → Option V) (st : V → St) (Q : V → (AV → List HObj → Prop) → Prop) : CF := fun args H κ => match dec ⟨args, H⟩ with
  | some v => (⟨args, H⟩ : St) = st v ∧ Q v κ
  | none => False
theorem mkC_ok {P : Program} {f : FuncId} {F : CF} {V : Type} {dec : St → Option V} {st : V → St} {Q : V → (AV → List HObj → Prop) → Prop} (h : SoundF P f F) (hs : ∀ v κ, Q v κ → F (st v).T (st v).H κ) : SoundF P f (mkC dec st Q) := by
  refine soundF_mono h fun args H κ hk => ?_
  unfold mkC at hk
  split at hk
  · rename_i v _
    obtain ⟨he, hq⟩ := hk
    have := hs v κ hq
    rwa [← he] at this
  · exact hk.elim
theorem soundF_run {C : Ctx} {P : Program} {callF : FuncId → CF} (hTab : TabOK C P) (hF : ∀ g, SoundF P g (callF g)) (hP : ∀ g ts F, C.pur g = some (ts, F) → SoundP P g F) {f : FuncId} {fn : Func} (hf : P.funcs[f]? = some fn) (hb : fn.body.isSome = true) (hL : LoopsOK C callF (bodyOf fn)) :
    SoundF P f (fun args H κ => runFn C callF fn args H κ) := by
  obtain ⟨c, hc⟩ := Option.isSome_iff_exists.1 hb
  have e : bodyOf fn = c := by simp only [bodyOf]; rw [hc]
  rw [e] at hL
  exact run_sound hTab hF hP hf hc hL

/-- One of several contracts of the function serves at each argument. -/
theorem soundP_case {P : Program} {f : FuncId} (ts : List Ty) {G : List AV → PV} (h : ∀ args, AllP (G args).1 → ∃ F : CF, SoundF P f F ∧ F args [] fun r H => coRes H ts r fun r' => r' = (G args).2) : SoundP P f G := by
  intro args hc
  obtain ⟨F, hF, hk⟩ := h args hc
  have := soundP_frz (F := fun a H κ => a = args ∧ F a H κ) (soundF_mono hF fun a H κ h => h.2) ts (G := fun a => ((a = args) :: (G a).1, (G a).2)) (fun a ha => ⟨ha.1, by rw [ha.1]; exact hk⟩) args ⟨rfl, hc⟩
  exact this

/-! ### Contracts that are read off a run -/
section
variable {C : Ctx} {P : Program} {callF : FuncId → CF} {g : FuncId} {fn : Func}
theorem soundP_pg1 (hS : SoundF P g (fun args H κ => runFn C callF fn args H κ)) (ts : List Ty) {a : Ty} {pre : a.D → List Prop} {f : a.D → AV} (h : ∀ x, AllP (pre x) → runFn C callF fn [.v a x] [] fun r H => coRes H ts r fun r' => r' = f x) : SoundP P g (pg1 a pre f) :=
  soundP_frz hS ts (pg1_use (P := fun args q => runFn C callF fn args [] fun r H => coRes H ts r fun r' => r' = q.2) h)
theorem soundP_pg2 (hS : SoundF P g (fun args H κ => runFn C callF fn args H κ)) (ts : List Ty) {a b : Ty} {pre : a.D → b.D → List Prop} {f : a.D → b.D → AV} (h : ∀ x y, AllP (pre x y) → runFn C callF fn [.v a x, .v b y] [] fun r H => coRes H ts r fun r' => r' = f x y) : SoundP P g (pg2 a b pre f) :=
  soundP_frz hS ts (pg2_use (P := fun args q => runFn C callF fn args [] fun r H => coRes H ts r fun r' => r' = q.2) h)
theorem soundP_pg3 (hS : SoundF P g (fun args H κ => runFn C callF fn args H κ)) (ts : List Ty) {a b c : Ty} {pre : a.D → b.D → c.D → List Prop} {f : a.D → b.D → c.D → AV} (h : ∀ x y z, AllP (pre x y z) → runFn C callF fn [.v a x, .v b y, .v c z] [] fun r H => coRes H ts r fun r' => r' = f x y z) : SoundP P g (pg3 a b c pre f) :=
  soundP_frz hS ts (pg3_use (P := fun args q => runFn C callF fn args [] fun r H => coRes H ts r fun r' => r' = q.2) h)
theorem soundP_pg4 (hS : SoundF P g (fun args H κ => runFn C callF fn args H κ)) (ts : List Ty) {a b c d : Ty} {pre : a.D → b.D → c.D → d.D → List Prop} {f : a.D → b.D → c.D → d.D → AV} (h : ∀ x y z u, AllP (pre x y z u) → runFn C callF fn [.v a x, .v b y, .v c z, .v d u] [] fun r H => coRes H ts r fun r' => r' = f x y z u) : SoundP P g (pg4 a b c d pre f) :=
  soundP_frz hS ts (pg4_use (P := fun args q => runFn C callF fn args [] fun r H => coRes H ts r fun r' => r' = q.2) h)
end

/-! ### Reading off -/
section
variable {α : Type} {K : α → Prop} {c : Bool} {p q A B : Prop} {v w : α}
theorem bif_PV (h1 : p → K v → A) (h2 : q → K w → B) : (bif c then p else q) → K (bif c then v else w) → (bif c then A else B) := by cases c <;> assumption
theorem bif_Pv (h1 : p → K v → A) (h2 : q → K v → B) : (bif c then p else q) → K v → (bif c then A else B) := by cases c <;> assumption
theorem bif_pV (h1 : p → K v → A) (h2 : p → K w → B) : p → K (bif c then v else w) → (bif c then A else B) := by cases c <;> assumption
theorem bif_pv (h1 : p → K v → A) (h2 : p → K v → B) : p → K v → (bif c then A else B) := by cases c <;> assumption
theorem and_p (h : q → K v → A) : (p ∧ q) → K v → (p ∧ A) := fun h1 h2 => ⟨h1.1, h h1.2 h2⟩
theorem and_c (hp : p) (h : q → K v → A) : q → K v → (p ∧ A) := fun h1 h2 => ⟨hp, h h1 h2⟩
theorem bif_all (h1 : p) (h2 : q) : bif c then p else q := by cases c <;> assumption
theorem and_t (h : True → K v → A) : p → K v → (p ∧ A) := fun h1 h2 => ⟨h1, h trivial h2⟩
end
end Go.Proofs.Ytdjdbjcapenjeaa.Dx

