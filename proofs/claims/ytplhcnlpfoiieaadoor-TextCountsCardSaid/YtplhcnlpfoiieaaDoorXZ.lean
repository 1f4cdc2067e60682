/- A row of bytes that is the call's own, or a literal '[]byte("..")' that nobody has appended to yet: both are appended to alike. -/
import Derived.Test.YtplhcnlpfoiieaaDoorWWords
import Derived.Lib.SlBytesConst
set_option linter.unusedVariables false
namespace Go.Proofs.YtplhcnlpfoiieaaDoor.P
open Go.RowKit Go.Proofs.YtplhcnlpfoiieaaDoorW.PrintWords

/-- The literal: as many cells as it has bytes. -/
def ZLit (w : World) (v : Value) (xs : List Int) : Prop := ∃ g, v = .slice (some ⟨g, 0, none⟩) xs.length xs.length ∧ ∀ (j : Nat) (u : Value), (xs.map (Value.int .u8))[j]? = some u → w.cell? ⟨g, j, none⟩ = some u
def ZRow (e : Nat) (w : World) (base : Nat) (v : Value) (xs : List Int) : Prop := Kd.R (Kd.int .u8) e w base (fun _ => True) v xs ∨ ZLit w v xs
theorem ZLit.below {w w1 : World} {v : Value} {xs : List Int} (h : ZLit w v xs) (hb : Below w.heap.size w w1) : ZLit w1 v xs := by
  obtain ⟨g, hv, hc⟩ := h
  exact ⟨g, hv, fun j u hu => pw_cell_below hb (hc j u hu)⟩
theorem ZRow.alloc {e : Nat} {w : World} {base : Nat} {v : Value} {xs : List Int} (h : ZRow e w base v xs) (o : Obj) : ZRow e (w.alloc o) base v xs :=
  h.elim (fun h => .inl (Kd.R_alloc h o)) (fun h => .inr (h.below (below_alloc (Below.refl _ _) o)))
theorem ZRow.drewN {e : Nat} {w : World} {base : Nat} {v : Value} {xs : List Int} (h : ZRow e w base v xs) (m : Nat) : ZRow e (w.drewN m) base v xs := h
theorem ZRow.drew {e : Nat} {w : World} {base : Nat} {v : Value} {xs : List Int} (h : ZRow e w base v xs) : ZRow e w.drew base v xs := h
section
variable {P : Program} {ops : Array Oper} {rest : List Oper} {o : Oper} {a : Act} {Q : Exit → Act → World → Prop}
theorem Z_append {w0 W : World} (base : Nat) (hgd : o.guard = none) (s x : Operand) (t e : TypeId)
    (ho : o.op = .call { callee := .builtin .append, args := #[s, x], argTypes := #[t, t] })
    (ht : P.underlying t = some (.slice e)) (hinfo : (P.info? e).map (fun i => (i.zero, i.size, i.bytes)) = some (some (.int .u8 0), 1, 1))
    (v : Value) (xs : List Int) (p : Int) (hs : a.eval s = v) (hx : a.eval x = .slice (some ⟨W.heap.size, 0, none⟩) 1 1)
    (HO : ZRow e W base v xs) (HB : Below base w0 W) (hbase : base ≤ W.heap.size) (hl : (xs.length + 1) * 1 ≤ 140737488355328)
    (h : ∀ v1 w1, Kd.R (Kd.int .u8) e w1 base (fun _ => True) v1 (xs ++ [p]) → Below base w0 w1 → W.grownBy w1 v.ownBlock → (v1.ownBlock = v.ownBlock ∨ ∃ b, v1.ownBlock = some b ∧ W.heap.size ≤ b) → wpList P ops Q rest (a.put o.dst v1) w1) :
    wpList P ops Q (o :: rest) a (W.alloc (.cells #[.int .u8 p] e)) := by
  rcases HO with HO | ⟨g, rfl, hc⟩
  · exact Kd.R_append (Kd.int .u8) base hgd s x t e (.int .u8 0) 1 ho ht hinfo rfl (by decide) (by omega) v xs p [.int .u8 p] (fun _ => True) (fun _ => False) hs hx rfl (fun _ hk => hk.elim) (fun _ _ => trivial) HO HB hbase hl h
  · obtain ⟨i0, hi, hzz⟩ := Option.map_eq_some_iff.1 hinfo
    simp only [Prod.mk.injEq] at hzz
    obtain ⟨hz0, hz1, hz2⟩ := hzz
    have hlen : (xs.map (Value.int .u8)).length = xs.length * i0.size := by rw [List.length_map, hz1, Nat.mul_one]
    have hcells : ∀ (j : Nat) (u : Value), (xs.map (Value.int .u8))[j]? = some u → (W.alloc (.cells #[.int .u8 p] e)).cell? ((⟨g, 0, none⟩ : Addr).add j) = some u := by
      intro j u hu
      rw [add_plain]
      exact pw_cell_below (below_alloc (Below.refl _ _) _) (hc j u hu)
    have hnews : ∀ (j : Nat) (u : Value), [Value.int .u8 p][j]? = some u → (W.alloc (.cells #[.int .u8 p] e)).cell? ((⟨W.heap.size, 0, none⟩ : Addr).add j) = some u := by
      intro j u hu
      rw [add_plain, World.cell?_alloc_mark]
      simpa using hu
    have hr := run_append_grow (P := P) (W.alloc (.cells #[.int .u8 p] e)) t o.type e i0 (.int .u8 0) ht hi hz0 ⟨g, 0, none⟩ xs.length xs.length (xs.map (Value.int .u8)) hlen hcells ⟨W.heap.size, 0, none⟩ 1 1 [.int .u8 p] (by rw [hz1]; rfl) hnews (by omega) (by omega) (by rw [hz2]; exact growslice_fits (by omega) (by omega))
    refine wpList_plain hgd fun K hK => ?_
    unfold Oper.wp execOp
    simp only [ho, resolve, invoke, builtin, Sem.run_bind, Sem.run_pure, Result.andThen_ok, List.map_toArray, List.map_cons, List.map_nil, hs, hx, hr]
    refine hK _ _ (h _ _ ?_ ?_ ?_ ?_)
    · have hge := grownCap_ge (W.alloc (.cells #[.int .u8 p] e)) (xs.length + 1) xs.length e
      have hcm := grownCap_le_maxLen (W.alloc (.cells #[.int .u8 p] e)) (xs.length + 1) xs.length e (by simp only [maxLen]; omega)
      refine Kd.R_of_own (enc := Value.int .u8) (h1 := fun _ => rfl) ?_ (fun _ _ => trivial)
      have hl2 : (xs ++ [p]).length = xs.length + 1 := by rw [List.length_append]; rfl
      rw [hl2]
      refine ⟨by simp [encs], .inr ⟨_, _, _, rfl, ?_, heap_alloc_new _ _, hge, hcm, ?_, ?_⟩⟩
      · show base ≤ (W.alloc (.cells #[.int .u8 p] e)).drew.heap.size
        exact Nat.le_trans hbase (below_alloc (Below.refl W.heap.size W) _).size
      · have hz1' : (Value.int IntKind.u8 0).cells.size = 1 := rfl
        simp only [Array.size_append, List.size_toArray, size_zeroCells, hz1', List.length_map, List.length_cons, List.length_nil]
        omega
      · simp only [Array.toList_append, List.append_assoc]
        rw [← List.append_assoc]
        have e1 : (xs.map (Value.int .u8)).toArray.toList ++ [Value.int .u8 p].toArray.toList = encs (Value.int .u8) (xs ++ [p]) := by simp [encs]
        rw [e1]
        exact List.take_left' (by simp [encs])
    · exact ((HB.alloc hbase _).drew).alloc (Nat.le_trans hbase (below_alloc (Below.refl W.heap.size W) _).size) _
    · exact grown_of_below (below_alloc (below_drew1 (below_alloc (Below.refl _ _) _)) _) _
    · right
      exact ⟨_, rfl, (below_alloc (Below.refl W.heap.size W) (.cells #[.int .u8 p] e)).size⟩
end
end Go.Proofs.YtplhcnlpfoiieaaDoor.P
