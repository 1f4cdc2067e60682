/- What a reading of an argument gives, as the engine holds it: plain data that nobody writes. -/
import Derived.Test.YtdjdbjcapenjeaaRows
import Derived.Test.YtdjdbjcapenjeaaXBulk
import Derived.Test.YtdjdbjcapenjeaaDx3
import Derived.Deep.Slices
import Derived.ChangeArms
import Derived.WideLaws
import Derived.Below
set_option linter.unusedVariables false
namespace Go.Proofs.Ytdjdbjcapenjeaa.readsD
open Go Go.RowKit Go.ChangeShapes Go.Proofs.Ytdjdbjcapenjeaa.Dx

/-- Numbers lie in their kinds. -/
def Wf : (τ : Ty) → τ.D → Prop
  | .int k, n => (Lit.int k n).wf = true
  | .sl t, xs => ∀ x ∈ xs, Wf t x
  | .pair a b, x => Wf a x.1 ∧ Wf b x.2
  | .ptr t, x => Wf t x
  | .arr _ t, xs => ∀ x ∈ xs, Wf t x
  | .ifc _ a, x => Wf a x
  | _, _ => True
/-- How much there is to read. -/
def Sz : (τ : Ty) → τ.D → Nat
  | .str, s => ByteArray.size s + 1
  | .sl t, xs => (List.map (Sz t) xs).sum + 1
  | .pair a b, x => Sz a x.1 + Sz b x.2
  | .unit, _ => 0
  | .ptr t, x => Sz t x + 1
  | .arr _ t, xs => (List.map (Sz t) xs).sum
  | .ifc _ a, x => Sz a x
  | _, _ => 1
abbrev mem (W : World) : Nat → Option Obj := fun g => W.heap[g]?
abbrev none' : Nat → Go.Proofs.Ytdjdbjcapenjeaa.Dx.Place := fun _ => .none

def Opens (P : Program) (t : TypeId) (τ : Ty) : Prop :=
  ∀ (H : Type) (enc : TypeId × Value → H) (W : World) (base : Nat) (sp : Nat → Bool) (held : Bool) (fuel : Nat) (cs : List Value) (x : DataW H × List MemPlace),
    DataW.trod enc P W base sp held fuel t cs = some x → ∃ a : τ.D, Flat (mem W) none' τ a cs ∧ Wf τ a ∧ Sz τ a ≤ Rows.uptoBulk x.1
variable {P : Program} {t e : TypeId}

theorem Opens.int {k : IntKind} (ht : P.underlying t = some (.int k)) : Opens P t (.int k) := by
  intro H enc W base sp held fuel cs x h
  obtain ⟨n, rfl, rfl, hw⟩ := DataW.trod_int ht h
  exact ⟨n, rfl, hw, by simp [Rows.uptoBulk, Sz]⟩
theorem Opens.bool (ht : P.underlying t = some .bool) : Opens P t .bool := by
  intro H enc W base sp held fuel cs x h
  obtain ⟨n, rfl, rfl⟩ := DataW.trod_bool ht h
  exact ⟨n, rfl, trivial, by simp [Rows.uptoBulk, Sz]⟩
theorem Opens.string (ht : P.underlying t = some .string) : Opens P t .str := by
  intro H enc W base sp held fuel cs x h
  obtain ⟨s, rfl, rfl, hs⟩ := DataW.trod_string ht h
  refine ⟨s, rfl, trivial, ?_⟩
  show s.size + 1 ≤ Rows.uptoBulk (DataW.lit (H := H) (.string s.data.toList))
  rw [bulks.string_eq, Array.length_toList]
  exact Nat.le_refl _
theorem bulkAll_app {H : Type} (l r : List (DataW H)) : Rows.uptoBulkAll (l ++ r) = Rows.uptoBulkAll l + Rows.uptoBulkAll r := bulks.append l r
theorem flats_snoc {α : Type} {R : α → List Value → Prop} {y : α} {v : List Value} (hy : R y v) : ∀ (xs : List α) (us : List Value), Flats R xs us → Flats R (xs ++ [y]) (us ++ v)
  | [], us, h => by simp only [Flats] at h; subst h; exact ⟨v, [], by simp, hy, rfl⟩
  | x :: xs, us, h => by
    obtain ⟨u, w, rfl, h1, h2⟩ := h
    exact ⟨u, w ++ v, by simp, h1, flats_snoc hy xs w h2⟩
theorem cells_get {W : World} {base : Nat} {a : Addr} {n : Nat} {cs : List Value} (h : W.cells? base a n = some cs) : cs.length = n ∧ ∀ i u, cs[i]? = some u → W.cell? (a.add i) = some u := by
  unfold World.cells? at h
  split at h
  · refine ⟨by simpa using mapM_some_length h, fun i u hu => ?_⟩
    have hi : i < n := by have h1 := mapM_some_length h; have h2 := (List.getElem?_eq_some_iff.1 hu).1; simp at h1; omega
    have := mapM_some_get h i i (by simp [hi])
    rw [this, hu]
  · simp at h
theorem imm_of {W : World} {a : Addr} {us : List Value} (hne : us ≠ []) (h : ∀ j u, us[j]? = some u → W.cell? (a.add j) = some u) : a.spot = none ∧ Imm (mem W) a us := by
  cases us with
  | nil => exact absurd rfl hne
  | cons u0 r =>
    have h0 := h 0 u0 rfl
    have hadd : ∀ j, (a.add j).block = a.block := fun j => add_block a j
    have key : ∃ c e fz, W.heap[a.block]? = some (.cells c e fz) ∧ a.spot = none := by
      unfold World.cell? at h0
      rw [hadd] at h0
      split at h0
      · rename_i c e fz hc
        refine ⟨c, e, fz, hc, ?_⟩
        cases hs : a.spot with
        | none => rfl
        | some s =>
          have : (a.add 0).spot.isSome = true := by simp [Addr.add, hs]
          rw [this] at h0
          simp at h0
      · cases h0
    obtain ⟨c, e, fz, hc, hs⟩ := key
    refine ⟨hs, c, e, fz, c.toList.take a.off, c.toList.drop (a.off + (u0 :: r).length), hc, ?_, ?_⟩
    · have hget : ∀ j, j < (u0 :: r).length → c.toList[a.off + j]? = (u0 :: r)[j]? := by
        intro j hj
        have h1 := h j ((u0 :: r)[j]) (List.getElem?_eq_getElem hj)
        unfold World.cell? at h1
        rw [hadd, hc] at h1
        simp only [add_spot hs, Option.isSome_none, Bool.false_eq_true, if_false, add_off] at h1
        rw [Array.getElem?_toList, h1, List.getElem?_eq_getElem hj]
      apply List.ext_getElem?
      intro j
      rcases Nat.lt_or_ge j a.off with hj | hj
      · rw [List.append_assoc, List.getElem?_append]
        have hl : a.off ≤ c.toList.length := by
          have := (List.getElem?_eq_some_iff.1 ((hget 0 (by simp)).trans rfl)).1
          omega
        rw [if_pos (by rw [List.length_take]; omega), List.getElem?_take, if_pos hj]
      · have hl : (c.toList.take a.off).length = a.off := by
          have := (List.getElem?_eq_some_iff.1 ((hget 0 (by simp)).trans rfl)).1
          rw [List.length_take]; omega
        rw [List.append_assoc, List.getElem?_append_right (by omega), hl]
        rcases Nat.lt_or_ge (j - a.off) (u0 :: r).length with hk | hk
        · rw [List.getElem?_append_left hk, ← hget _ hk, show a.off + (j - a.off) = j by omega]
        · rw [List.getElem?_append_right hk, List.getElem?_drop, show a.off + (u0 :: r).length + (j - a.off - (u0 :: r).length) = j by omega]
    · have := (List.getElem?_eq_some_iff.1 (show c.toList[a.off]? = some u0 from by
        have h1 := h0
        unfold World.cell? at h1
        rw [hadd, hc] at h1
        simp only [add_spot hs, Option.isSome_none, Bool.false_eq_true, if_false, add_off] at h1
        rw [Array.getElem?_toList]; exact h1)).1
      rw [List.length_take]; omega
theorem Opens.slice {τ : Ty} (ht : P.underlying t = some (.slice e)) (hc : P.cellsOf e = τ.size) (hz : τ.size ≠ 0) (hr : τ.refs = false) (ho : Opens P e τ) : Opens P t (.sl τ) := by
  intro H enc W base sp held fuel cs x h
  rcases Go.Deep.open_slice ht h with ⟨rfl, rfl⟩ | ⟨a, len, cap, m, n, D, Pl, rfl, hb, hl, hm, hmm, rfl, hx⟩
  · exact ⟨[], ⟨hr, none, 0, rfl, Nat.le_refl _, .inl rfl⟩, (fun x hx => by cases hx), by simp [Rows.uptoBulk, Sz]⟩
  · have hlm : len ≤ m := by rw [hmm]; split <;> omega
    have key : ∀ n', n' ≤ len → ∃ (L : List τ.D) (us : List Value), L.length = n' ∧ us.length = n' * τ.size ∧ Flats (Flat (mem W) none' τ) L us ∧ (∀ j u, us[j]? = some u → W.cell? (a.add j) = some u) ∧ (∀ x ∈ L, Wf τ x) ∧ (L.map (Sz τ)).sum ≤ Rows.uptoBulkAll ((List.range n').map D) := by
      intro n'
      induction n' with
      | zero => intro _; exact ⟨[], [], rfl, by simp, rfl, (fun j u h => by simp at h), (fun x hx => by cases hx), by simp [Rows.uptoBulkAll]⟩
      | succ n' ih =>
        intro hn
        obtain ⟨L, us, e1, e2, e3, e4, e5, e6⟩ := ih (by omega)
        obtain ⟨cs', h1, h2⟩ := hx n' (by omega)
        obtain ⟨a0, k, w, s⟩ := ho H enc W base sp held n cs' _ h2
        obtain ⟨l1, l2⟩ := cells_get h1
        refine ⟨L ++ [a0], us ++ cs', by simp [e1], by rw [List.length_append, e2, l1, hc, Nat.succ_mul], flats_snoc k L us e3, fun j u hj => ?_, fun x hx => ?_, ?_⟩
        · rcases Nat.lt_or_ge j us.length with hk | hk
          · rw [List.getElem?_append_left hk] at hj
            exact e4 j u hj
          · rw [List.getElem?_append_right hk] at hj
            have := l2 _ u hj
            rw [Go.Deep.add_add, hc, e2, show n' * τ.size + (j - n' * τ.size) = j by omega] at this
            exact this
        · rcases List.mem_append.1 hx with hx | hx
          · exact e5 x hx
          · rw [List.mem_singleton.1 hx]; exact w
        · rw [List.map_append, List.sum_append, List.range_succ, List.map_append, bulkAll_app]
          simp only [List.map_cons, List.map_nil, List.sum_cons, List.sum_nil, Rows.uptoBulkAll]
          have s' : Sz τ a0 ≤ Rows.uptoBulk (D n') := s
          omega
    obtain ⟨L, us, e1, e2, e3, e4, e5, e6⟩ := key len (Nat.le_refl _)
    refine ⟨L, ⟨hr, some a, cap, by rw [e1], by rw [e1]; omega, ?_⟩, e5, ?_⟩
    · cases hL : L with
      | nil => exact .inl rfl
      | cons y r =>
        right
        have hne : us ≠ [] := fun h => by
          rw [h, ← e1, hL] at e2
          simp only [List.length_nil, List.length_cons] at e2
          have := Nat.mul_eq_zero.1 e2.symm
          omega
        obtain ⟨s1, s2⟩ := imm_of hne e4
        exact ⟨a, us, rfl, s1, s2, by rw [← hL]; exact e3⟩
    · show (List.map (Sz τ) L).sum + 1 ≤ Rows.uptoBulk (DataW.slice _ _)
      have := bulks.slice_elems ((List.range len).map D) ((List.range (m - len)).map fun j => D (len + j))
      omega
/-- Fields side by side, from cell o on. -/
def Parts (P : Program) (l : List Field) (o : Nat) (τ : Ty) : Prop :=
  ∀ (H : Type) (enc : TypeId × Value → H) (W : World) (base : Nat) (sp : Nat → Bool) (held : Bool) (n : Nat) (cs : List Value) (xs : List (DataW H × List MemPlace)),
    xs.length = l.length → cs.length = o + τ.size → (∀ (i : Nat) (f : Field), l[i]? = some f → DataW.trod enc P W base sp held n f.type ((cs.drop f.offset).take (P.cellsOf f.type)) = xs[i]?) →
    ∃ a : τ.D, Flat (mem W) none' τ a (cs.drop o) ∧ Wf τ a ∧ Sz τ a ≤ Rows.uptoBulkAll (xs.map (·.1))
theorem Parts.nil {o : Nat} : Parts P [] o .unit := by
  intro H enc W base sp held n cs xs hl hc hx
  refine ⟨(), ?_, trivial, Nat.zero_le _⟩
  show cs.drop o = []
  rw [List.drop_eq_nil_of_le]
  simp only [Ty.size] at hc
  omega
theorem Parts.cons {f : Field} {l : List Field} {o : Nat} {a b : Ty} (hf : f.offset = o) (hc : P.cellsOf f.type = a.size) (ho : Opens P f.type a) (hr : Parts P l (o + a.size) b) : Parts P (f :: l) o (.pair a b) := by
  intro H enc W base sp held n cs xs hl hcs hx
  simp only [Ty.size] at hcs
  match xs, hl with
  | x :: xs, hl =>
    obtain ⟨y, h1, h2, h3⟩ := ho H enc W base sp held n _ x (hx 0 f rfl)
    obtain ⟨z, g1, g2, g3⟩ := hr H enc W base sp held n cs xs (by simpa using hl) (by omega) (fun i g hg => by simpa using hx (i + 1) g (by simpa using hg))
    rw [hf, hc] at h1
    refine ⟨(y, z), ⟨_, _, ?_, h1, g1⟩, ⟨h2, g2⟩, ?_⟩
    · rw [← List.drop_drop, List.take_append_drop]
    · simp only [List.map_cons, Rows.uptoBulkAll]
      show Sz a y + Sz b z ≤ _
      omega
theorem Opens.struct {fs : Array Field} {l : List Field} {τ : Ty} (ht : P.underlying t = some (.struct fs)) (hl : fs.toList = l) (hc : P.cellsOf t = τ.size) (hp : Parts P l 0 τ) : Opens P t τ := by
  intro H enc W base sp held fuel cs x h
  obtain ⟨xs, n, rfl, rfl, hlen, hsz, hx⟩ := DataW.trod_struct ht h
  obtain ⟨a, h1, h2, h3⟩ := hp H enc W base sp held n cs xs (by rw [← hl, Array.length_toList]; exact hsz) (by omega) (fun i f hf => hx i f (by rw [← hl] at hf; simpa using hf))
  rw [List.drop_zero] at h1
  refine ⟨a, h1, h2, ?_⟩
  show Sz τ a ≤ Rows.uptoBulk (DataW.agg _)
  simp only [Rows.uptoBulk]
  omega
/-- An argument. -/
theorem arg {H : Type} {enc : TypeId × Value → H} {W : World} {base : Nat} {sp : Nat → Bool} {held : Bool} {τ : Ty} {v : Value} {D : DataW H} {ps : List MemPlace} (ho : Opens P t τ)
    (h : DataW.Trod enc P W base sp held t v D ps) (hv : if τ.agg then ∃ cs, v = .agg cs else v.oneCell' = true) : ∃ a : τ.D, Val (mem W) none' τ a v ∧ Wf τ a ∧ Sz τ a ≤ Rows.uptoBulk D := by
  obtain ⟨fuel, h⟩ := h
  obtain ⟨a, h1, h2, h3⟩ := ho H enc W base sp held fuel _ _ h
  refine ⟨a, ⟨_, h1, ?_⟩, h2, h3⟩
  split at hv
  · rename_i hg
    obtain ⟨cs, rfl⟩ := hv
    rw [if_pos hg]; simp [Value.cells]
  · rename_i hg
    rw [if_neg hg, cells_of_one hv]
/-- The world at a call: all that there is stays. -/
theorem inv_start (W : World) : Go.Proofs.Ytdjdbjcapenjeaa.Dx.Inv ⟨fun _ => none, W.os, W.tape, W.output, W.heap.size⟩ (mem W) none' [] W := by
  refine ⟨fun g o h => h, fun g o h => rfl, (fun g o h => by cases h), (fun i o h => by simp at h), (fun i o h => by simp at h), (fun i j oi oj h => by simp at h), fun _ _ => rfl, rfl, rfl, rfl, Nat.le_refl _⟩
theorem below_of {W W' : World} {J : Nat → Option Obj} (hs : Sub (mem W) J) (h : Go.Proofs.Ytdjdbjcapenjeaa.Dx.Inv ⟨fun _ => none, W.os, W.tape, W.output, W.heap.size⟩ J none' [] W') : Below W.heap.size W W' := by
  refine ⟨h.os, h.tape, h.output, h.size, fun k hk => ?_⟩
  have h1 : W.heap[k]? = some W.heap[k] := Array.getElem?_eq_getElem hk
  rw [h1]
  exact h.imm k _ (hs k _ h1)
/-- A law that answers true. -/
theorem law_of {f : FuncId} {G : List AV → PV} (hG : SoundP P f G) {args : List AV} {vals : Array Value} {W : World} (hc : AllP (G args).1) (hv : (G args).2 = .v .bool true) (ha : AVs (mem W) none' args vals.toList) :
    Calls P f vals W fun e W' => e = .returned (.bool true) ∧ Below W.heap.size W W' := by
  refine (hG args hc _ _ _ W vals (inv_start W) ha).mono ?_
  rintro e W' ⟨v, J, rfl, hs, hr, hj⟩
  rw [hv] at hr
  rw [bool_of hr]
  exact ⟨rfl, below_of hs hj⟩
theorem law_of1 {f : FuncId} {a : Ty} {pre : a.D → List Prop} {fv : a.D → AV} (hG : SoundP P f (pg1 a pre fv)) {x : a.D} {u : Value} {W : World} (hc : AllP (pre x)) (hv : fv x = .v .bool true) (hx : Val (mem W) none' a x u) :
    Calls P f #[u] W fun e W' => e = .returned (.bool true) ∧ Below W.heap.size W W' := by
  have e : pg1 a pre fv [.v a x] = (pre x, fv x) := by unfold pg1; exact dif_pos rfl
  refine law_of hG (args := [.v a x]) ?_ ?_ ⟨u, [], rfl, hx, rfl⟩
  · rw [e]; exact hc
  · rw [e]; exact hv
theorem law_of2 {f : FuncId} {a b : Ty} {pre : a.D → b.D → List Prop} {fv : a.D → b.D → AV} (hG : SoundP P f (pg2 a b pre fv)) {x : a.D} {y : b.D} {u v : Value} {W : World} (hc : AllP (pre x y)) (hv : fv x y = .v .bool true) (hx : Val (mem W) none' a x u) (hy : Val (mem W) none' b y v) :
    Calls P f #[u, v] W fun e W' => e = .returned (.bool true) ∧ Below W.heap.size W W' := by
  have e : pg2 a b pre fv [.v a x, .v b y] = (pre x y, fv x y) := by unfold pg2; exact (dif_pos rfl).trans (dif_pos rfl)
  refine law_of hG (args := [.v a x, .v b y]) ?_ ?_ ⟨u, [v], rfl, hx, v, [], rfl, hy, rfl⟩
  · rw [e]; exact hc
  · rw [e]; exact hv
theorem law_of3 {f : FuncId} {a b c : Ty} {pre : a.D → b.D → c.D → List Prop} {fv : a.D → b.D → c.D → AV} (hG : SoundP P f (pg3 a b c pre fv)) {x : a.D} {y : b.D} {z : c.D} {u v w : Value} {W : World} (hc : AllP (pre x y z)) (hv : fv x y z = .v .bool true) (hx : Val (mem W) none' a x u) (hy : Val (mem W) none' b y v) (hz : Val (mem W) none' c z w) :
    Calls P f #[u, v, w] W fun e W' => e = .returned (.bool true) ∧ Below W.heap.size W W' := by
  have e : pg3 a b c pre fv [.v a x, .v b y, .v c z] = (pre x y z, fv x y z) := by unfold pg3; exact (dif_pos rfl).trans ((dif_pos rfl).trans (dif_pos rfl))
  refine law_of hG (args := [.v a x, .v b y, .v c z]) ?_ ?_ ⟨u, [v, w], rfl, hx, v, [w], rfl, hy, w, [], rfl, hz, rfl⟩
  · rw [e]; exact hc
  · rw [e]; exact hv
theorem sum_mem {α : Type} (f : α → Nat) : ∀ (l : List α) (x : α), x ∈ l → f x ≤ (l.map f).sum
  | [], x, h => by cases h
  | y :: l, x, h => by
    simp only [List.map_cons, List.sum_cons]
    rcases List.mem_cons.1 h with rfl | h
    · omega
    · have := sum_mem f l x h; omega
theorem sum_len {α : Type} (f : α → Nat) (hf : ∀ x, 1 ≤ f x) : ∀ l : List α, l.length ≤ (l.map f).sum
  | [] => by simp
  | y :: l => by
    simp only [List.map_cons, List.sum_cons, List.length_cons]
    have := hf y; have := sum_len f hf l; omega
end Go.Proofs.Ytdjdbjcapenjeaa.readsD
