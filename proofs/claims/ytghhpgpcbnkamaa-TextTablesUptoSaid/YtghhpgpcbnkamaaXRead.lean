/- What a reading of an argument gives, kind by kind: the value's cells in the words of the printed contracts (Kd), each part well formed, and its size no more than the reading's bulk. -/
import Derived.Test.YtghhpgpcbnkamaaRows
import Derived.Test.YtghhpgpcbnkamaaXBulk
import Derived.Test.YtghhpgpcbnkamaaWWords
import Derived.Deep.Slices
import Derived.ChangeArms
import Derived.WideLaws
set_option linter.unusedVariables false
namespace Go.Proofs.Ytghhpgpcbnkamaa.reads
open Go.RowKit Go.ChangeShapes Go.Proofs.YtghhpgpcbnkamaaW.PrintWords

def Opens (P : Program) (t : TypeId) {α : Type} (d : Kd α) (wf : α → Prop) (sz : α → Nat) : Prop :=
  ∀ (H : Type) (enc : TypeId × Value → H) (W : World) (base : Nat) (sp : Nat → Bool) (held : Bool) (fuel : Nat) (cs : List Value) (x : DataW H × List MemPlace),
    DataW.trod enc P W base sp held fuel t cs = some x → ∃ a, d.K W a cs ∧ wf a ∧ sz a ≤ Rows.uptoBulk x.1

variable {P : Program} {t e : TypeId} {α β : Type}

theorem Opens.int {k : IntKind} (ht : P.underlying t = some (.int k)) : Opens P t (Kd.int k) (fun n => (Lit.int k n).wf = true) (fun _ => 1) := by
  intro H enc W base sp held fuel cs x h
  obtain ⟨n, rfl, rfl, hw⟩ := DataW.trod_int ht h
  exact ⟨n, rfl, hw, by simp [Rows.uptoBulk]⟩
theorem Opens.bool (ht : P.underlying t = some .bool) : Opens P t Kd.bool (fun _ => True) (fun _ => 1) := by
  intro H enc W base sp held fuel cs x h
  obtain ⟨n, rfl, rfl⟩ := DataW.trod_bool ht h
  exact ⟨n, rfl, trivial, by simp [Rows.uptoBulk]⟩
theorem Opens.string (ht : P.underlying t = some .string) : Opens P t Kd.string (fun _ => True) (fun s => s.size + 1) := by
  intro H enc W base sp held fuel cs x h
  obtain ⟨s, rfl, rfl, hs⟩ := DataW.trod_string ht h
  refine ⟨s, rfl, trivial, ?_⟩
  show _ ≤ Rows.uptoBulk (DataW.lit (H := H) (.string s.data.toList))
  rw [bulks.string_eq, Array.length_toList]
  exact Nat.le_refl _

theorem bulkAll_sum {H : Type} (l : List (DataW H)) : Rows.uptoBulkAll l = (l.map Rows.uptoBulk).sum := by
  induction l with
  | nil => simp [Rows.uptoBulkAll]
  | cons x l ih => simp [Rows.uptoBulkAll, ih]
theorem sum_le (l : List Nat) (f g : Nat → Nat) (h : ∀ i, i ∈ l → f i ≤ g i) : (l.map f).sum ≤ (l.map g).sum := by
  induction l with
  | nil => simp
  | cons x l ih => simp only [List.map_cons, List.sum_cons]; have := h x List.mem_cons_self; have := ih (fun i hi => h i (List.mem_cons_of_mem _ hi)); omega
theorem cells_get {W : World} {base : Nat} {a : Addr} {n : Nat} {cs : List Value} (h : W.cells? base a n = some cs) : cs.length = n ∧ ∀ i u, cs[i]? = some u → W.cell? (a.add i) = some u := by
  unfold World.cells? at h
  split at h
  · refine ⟨by simpa using mapM_some_length h, fun i u hu => ?_⟩
    have hi : i < n := by have h1 := mapM_some_length h; have h2 := (List.getElem?_eq_some_iff.1 hu).1; simp at h1; omega
    have := mapM_some_get h i i (by simp [hi])
    rw [this, hu]
  · simp at h

theorem Opens.slice {d : Kd α} {wf : α → Prop} {sz : α → Nat} (ht : P.underlying t = some (.slice e)) (hc : P.cellsOf e = d.sz) (ho : Opens P e d wf sz) :
    Opens P t (Kd.slice e d) (fun l => ∀ x ∈ l, wf x) (fun l => (l.map sz).sum + 1) := by
  classical
  intro H enc W base sp held fuel cs x h
  rcases Go.Deep.open_slice ht h with ⟨rfl, rfl⟩ | ⟨a, len, cap, m, n, D, Pl, rfl, hb, hl, hm, hmm, rfl, hx⟩
  · refine ⟨[], ⟨none, 0, rfl, Nat.le_refl _, rfl, by simp, fun h => absurd h (by simp)⟩, by simp, by simp [Rows.uptoBulk]⟩
  · have hlm : len ≤ m := by rw [hmm]; split <;> omega
    have key : ∀ i, i < len → ∃ a0 : α, ∃ cs', W.cells? base (a.add (i * P.cellsOf e)) (P.cellsOf e) = some cs' ∧ d.K W a0 cs' ∧ wf a0 ∧ sz a0 ≤ Rows.uptoBulk (D i) := by
      intro i hi
      obtain ⟨cs', h1, h2⟩ := hx i (by omega)
      obtain ⟨a0, k, w, s⟩ := ho H enc W base sp held n cs' _ h2
      exact ⟨a0, cs', h1, k, w, s⟩
    obtain ⟨L, hL, hg⟩ : ∃ L : List α, L.length = len ∧ ∀ i (hi : i < len), L[i]? = some (Classical.choose (key i hi)) :=
      ⟨(List.range len).attach.map fun i => Classical.choose (key i.1 (List.mem_range.1 i.2)), by simp, fun i hi => by simp [hi]⟩
    have hw : ∀ x ∈ L, wf x := by
      intro x hx
      obtain ⟨i, hi⟩ := List.getElem?_of_mem hx
      have hil : i < len := by have := (List.getElem?_eq_some_iff.1 hi).1; omega
      rw [hg i hil] at hi
      obtain rfl := Option.some.inj hi
      obtain ⟨_, _, _, h3, _⟩ := Classical.choose_spec (key i hil)
      exact h3
    have hs : (L.map sz).sum ≤ Rows.uptoBulkAll ((List.range len).map D) := by
      rw [bulkAll_sum, List.map_map]
      have e : L.map sz = (List.range len).map fun i => if hi : i < len then sz (Classical.choose (key i hi)) else 0 := by
        apply List.ext_getElem?
        intro i
        rw [List.getElem?_map, List.getElem?_map]
        by_cases hi : i < len
        · rw [hg i hi]
          simp [hi]
        · rw [List.getElem?_eq_none (by omega)]
          simp [hi]
      rw [e]
      refine sum_le _ _ _ fun i hi => ?_
      have hil := List.mem_range.1 hi
      rw [dif_pos hil]
      obtain ⟨_, _, _, _, h4⟩ := Classical.choose_spec (key i hil)
      exact h4
    refine ⟨L, ⟨some a, cap, by rw [hL], by omega, hL.symm ▸ rfl, ?_, fun _ => ⟨a, rfl, fun j p hj => ?_⟩⟩, hw, ?_⟩
    · have : maxLen = 9223372036854775807 := rfl
      omega
    · have hjl : j < len := by have := (List.getElem?_eq_some_iff.1 hj).1; omega
      rw [hg j hjl] at hj
      obtain rfl := Option.some.inj hj
      obtain ⟨cs', h1, h2, _, _⟩ := Classical.choose_spec (key j hjl)
      obtain ⟨hl1, hl2⟩ := cells_get h1
      refine ⟨cs', by rw [hl1, hc], h2, fun i u hu => ?_⟩
      have := hl2 i u hu
      rwa [Go.Deep.add_add, hc] at this
    · show (L.map sz).sum + 1 ≤ Rows.uptoBulk (DataW.slice _ _)
      have := bulks.slice_elems ((List.range len).map D) ((List.range (m - len)).map fun j => D (len + j))
      omega

/-- Fields side by side, from cell o on. -/
def Parts (P : Program) (l : List Field) (o : Nat) (d : Kd α) (wf : α → Prop) (sz : α → Nat) : Prop :=
  ∀ (H : Type) (enc : TypeId × Value → H) (W : World) (base : Nat) (sp : Nat → Bool) (held : Bool) (n : Nat) (cs : List Value) (xs : List (DataW H × List MemPlace)),
    xs.length = l.length → (∀ (i : Nat) (f : Field), l[i]? = some f → DataW.trod enc P W base sp held n f.type ((cs.drop f.offset).take (P.cellsOf f.type)) = xs[i]?) →
    ∃ a, d.K W a ((cs.drop o).take d.sz) ∧ wf a ∧ sz a ≤ Rows.uptoBulkAll (xs.map (·.1))
theorem Parts.one {f : Field} {o : Nat} {d : Kd α} {wf : α → Prop} {sz : α → Nat} (hf : f.offset = o) (hc : P.cellsOf f.type = d.sz) (ho : Opens P f.type d wf sz) : Parts P [f] o d wf sz := by
  intro H enc W base sp held n cs xs hl hx
  match xs, hl with
  | [x], _ =>
    obtain ⟨a, h1, h2, h3⟩ := ho H enc W base sp held n _ x (hx 0 f rfl)
    rw [hf, hc] at h1
    exact ⟨a, h1, h2, by simpa [Rows.uptoBulkAll] using h3⟩
theorem Parts.cons {f : Field} {l : List Field} {o : Nat} {d : Kd α} {wf : α → Prop} {sz : α → Nat} {d' : Kd β} {wf' : β → Prop} {sz' : β → Nat} (hf : f.offset = o) (hc : P.cellsOf f.type = d.sz) (ho : Opens P f.type d wf sz) (hr : Parts P l (o + d.sz) d' wf' sz') :
    Parts P (f :: l) o (Kd.pair d d') (fun x => wf x.1 ∧ wf' x.2) (fun x => sz x.1 + sz' x.2) := by
  intro H enc W base sp held n cs xs hl hx
  match xs, hl with
  | x :: xs, hl =>
    obtain ⟨a, h1, h2, h3⟩ := ho H enc W base sp held n _ x (hx 0 f rfl)
    obtain ⟨b, g1, g2, g3⟩ := hr H enc W base sp held n cs xs (by simpa using hl) (fun i g hg => by simpa using hx (i + 1) g (by simpa using hg))
    rw [hf, hc] at h1
    refine ⟨(a, b), ⟨_, _, ?_, h1, g1⟩, ⟨h2, g2⟩, ?_⟩
    · show (cs.drop o).take (d.sz + d'.sz) = _
      rw [List.take_add, List.drop_drop]
    · simp only [List.map_cons, Rows.uptoBulkAll]
      show sz a + sz' b ≤ _
      omega
theorem Opens.struct {fs : Array Field} {l : List Field} {d : Kd α} {wf : α → Prop} {sz : α → Nat} {f : β → α} {g : α → β} (ht : P.underlying t = some (.struct fs)) (hl : fs.toList = l) (hc : P.cellsOf t = d.sz) (hg : ∀ x, f (g x) = x) (hp : Parts P l 0 d wf sz) :
    Opens P t (Kd.iso d f) (fun x => wf (f x)) (fun x => sz (f x) + 1) := by
  intro H enc W base sp held fuel cs x h
  obtain ⟨xs, n, rfl, rfl, hlen, hsz, hx⟩ := DataW.trod_struct ht h
  obtain ⟨a, h1, h2, h3⟩ := hp H enc W base sp held n cs xs (by rw [← hl, Array.length_toList]; exact hsz) (fun i f hf => hx i f (by rw [← hl] at hf; simpa using hf))
  refine ⟨g a, ?_, by show wf (f (g a)); rw [hg]; exact h2, ?_⟩
  · show d.K W (f (g a)) cs
    rw [hg]
    rwa [List.drop_zero, List.take_of_length_le (by omega)] at h1
  · show sz (f (g a)) + 1 ≤ Rows.uptoBulk (DataW.agg _)
    rw [hg]
    simp only [Rows.uptoBulk]
    omega

/-- An argument of slice type. -/
theorem arg_slice {H : Type} {enc : TypeId × Value → H} {W : World} {base : Nat} {sp : Nat → Bool} {held : Bool} {d : Kd α} {wf : List α → Prop} {sz : List α → Nat} {A : Option Addr} {len cap : Nat} {D : DataW H} {ps : List MemPlace} (ho : Opens P t (Kd.slice e d) wf sz)
    (h : DataW.Trod enc P W base sp held t (.slice A len cap) D ps) : ∃ l : List α, len = l.length ∧ l.length ≤ cap ∧ d.C W A l.length l ∧ wf l ∧ sz l ≤ Rows.uptoBulk D := by
  obtain ⟨fuel, h⟩ := h
  obtain ⟨l, ⟨A', c, hcs, hl, hr⟩, hw, hs⟩ := ho H enc W base sp held fuel _ _ h
  simp [Value.cells] at hcs
  obtain ⟨rfl, rfl, rfl⟩ := hcs
  exact ⟨l, rfl, hl, hr, hw, hs⟩
/-- An argument of struct type. -/
theorem arg_struct {H : Type} {enc : TypeId × Value → H} {W : World} {base : Nat} {sp : Nat → Bool} {held : Bool} {d : Kd α} {wf : α → Prop} {sz : α → Nat} {cs : Array Value} {D : DataW H} {ps : List MemPlace} (ho : Opens P t d wf sz)
    (h : DataW.Trod enc P W base sp held t (.agg cs) D ps) : ∃ a : α, d.K W a cs.toList ∧ wf a ∧ sz a ≤ Rows.uptoBulk D := by
  obtain ⟨fuel, h⟩ := h
  exact ho H enc W base sp held fuel _ _ h
theorem sum_one (l : List α) : (l.map fun _ => 1).sum = l.length := by
  induction l with
  | nil => rfl
  | cons x l ih => simp [ih]; omega
theorem length_le (l : List α) (sz : α → Nat) (h : ∀ x, 1 ≤ sz x) : l.length ≤ (l.map sz).sum := by
  induction l with
  | nil => simp
  | cons x l ih => have := h x; simp only [List.length_cons, List.map_cons, List.sum_cons]; omega
theorem mem_le (l : List α) (sz : α → Nat) (x : α) (h : x ∈ l) : sz x ≤ (l.map sz).sum := by
  induction l with
  | nil => cases h
  | cons y l ih =>
    simp only [List.map_cons, List.sum_cons]
    cases List.mem_cons.1 h with
    | inl e => subst e; omega
    | inr e => have := ih e; omega
end Go.Proofs.Ytghhpgpcbnkamaa.reads
