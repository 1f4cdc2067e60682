/- Words for walks by hand: a world behind a store into a block of one's own, as a letter. -/
import Derived.Test.YtghhpgpcbnkamaaXWords
import Derived.Deep.RegionHeld3
namespace Go.Proofs.Ytghhpgpcbnkamaa.P
open Go.RowKit Go.Proofs.YtghhpgpcbnkamaaW.PrintWords Go.Proofs.YtghhpgpcbnkamaaW.PrintLast Go.Proofs.YtghhpgpcbnkamaaW.PrintMore
set_option linter.unusedVariables false
theorem unb1 {W W1 : World} (h : Below W.drew.heap.size W.drew W1) : Below W.heap.size W W1 := below_step (below_drew (Below.refl _ _)) h
theorem unbN {W W1 : World} {n : Nat} (h : Below (W.drewN n).heap.size (W.drewN n) W1) : Below W.heap.size W W1 := below_step (pw_below_drewN (Below.refl _ _) n) h
theorem gG_ {w W : World} {g : Nat} (hg : g = W.heap.size) (HB : Aside0 (Below w.heap.size w W)) : Aside0 (w.heap.size ≤ g) := ⟨by rw [hg]; exact below_size HB.out⟩
theorem nE1_ {W : World} {x g : Nat} {o : Obj} (hg : g = W.heap.size) (h : Aside0 (W.heap[x]? = some o)) : Aside0 (x ≠ g) := ⟨by rw [hg]; exact Nat.ne_of_lt (blk_lt h.out)⟩
theorem nE2_ {W : World} {x g : Nat} {o : Obj} (hg : g = W.heap.size) (h : Aside0 (W.heap[x]? = some o)) : Aside0 (g ≠ x) := ⟨Ne.symm (nE1_ hg h).out⟩
def bl_ (n m : Nat) : Array Bool := ((List.range n).map fun i => m.testBit i).toArray
/-- w1 is W but for what stands in block g. -/
structure Only (W w1 : World) (g : Nat) : Prop where
  os : w1.os = W.os
  tape : w1.tape = W.tape
  output : w1.output = W.output
  size : w1.heap.size = W.heap.size
  far : ∀ k, k ≠ g → w1.heap[k]? = W.heap[k]?
theorem Only.below {B : Nat} {w W w1 : World} {g : Nat} (h : Only W w1 g) (hB : Below B w W) (hg : B ≤ g) : Below B w w1 :=
  ⟨h.os.trans hB.os, h.tape.trans hB.tape, h.output.trans hB.output, by rw [h.size]; exact hB.size, fun k hk => (h.far k (by omega)).trans (hB.block k hk)⟩
theorem Only.cell {W w1 : World} {g : Nat} (h : Only W w1 g) {a : Addr} {v : Value} (hc : W.cell? a = some v) (hne : a.block ≠ g) : w1.cell? a = some v := by
  have hh := h.far a.block hne
  unfold World.cell? at hc ⊢
  rw [hh]
  exact hc
theorem Only.blk {W w1 : World} {g k : Nat} {o : Obj} (h : Only W w1 g) (hne : k ≠ g) (hc : W.heap[k]? = some o) : w1.heap[k]? = some o := (h.far k hne).trans hc
theorem Only.undrew {W w1 : World} {g : Nat} (h : Only W.drew w1 g) : Only W w1 g := ⟨h.os, h.tape, h.output, h.size, h.far⟩
theorem Only.undrewN {W w1 : World} {g n : Nat} (h : Only (W.drewN n) w1 g) : Only W w1 g := ⟨h.os, h.tape, h.output, h.size, h.far⟩
theorem only_set {W : World} {g o' : Nat} {e : TypeId} {cur new : Array Value} {seg : List Value} (hh : W.heap[g]? = some (.cells cur e (0, 0))) (hfit : o' + seg.length ≤ cur.size)
    (hnew : new.toList = cur.toList.take o' ++ seg ++ cur.toList.drop (o' + seg.length)) : (W.setCells g o' seg).heap[g]? = some (.cells new e (0, 0)) ∧ Only W (W.setCells g o' seg) g := by
  obtain ⟨cur', h1, _, h3⟩ := setCells_row seg o' W cur hh hfit
  obtain ⟨s1, s2, s3, s4⟩ := setCells_same g seg o' W
  have : cur' = new := by rw [← Array.toList_inj, h3, hnew]
  subst this
  exact ⟨h1, s1, s2, s3, s4, fun k hk => setCells_far seg o' k hk⟩
theorem cz1_ {w : World} {g : Nat} {t : TypeId} {v0 : Value} (h : w.heap[g]? = some (.cells #[v0] t (0, 0))) : w.cell? ⟨g, 0, none⟩ = some v0 ∧ w.frozen? ⟨g, 0, none⟩ = false := ⟨(blk_cell h 0).trans rfl, blk_frozen h 0⟩
theorem cz2_ {w : World} {g : Nat} {t : TypeId} {v0 v1 : Value} (h : w.heap[g]? = some (.cells #[v0, v1] t (0, 0))) : w.cell? ⟨g, 0, none⟩ = some v0 ∧ w.cell? ⟨g, 1, none⟩ = some v1 ∧ w.frozen? ⟨g, 0, none⟩ = false ∧ w.frozen? ⟨g, 1, none⟩ = false := ⟨(blk_cell h 0).trans rfl, (blk_cell h 1).trans rfl, blk_frozen h 0, blk_frozen h 1⟩
theorem cz7_ {w : World} {g : Nat} {t : TypeId} {v0 v1 v2 v3 v4 v5 v6 : Value} (h : w.heap[g]? = some (.cells #[v0, v1, v2, v3, v4, v5, v6] t (0, 0))) : w.cell? ⟨g, 0, none⟩ = some v0 ∧ w.cell? ⟨g, 1, none⟩ = some v1 ∧ w.cell? ⟨g, 2, none⟩ = some v2 ∧ w.cell? ⟨g, 3, none⟩ = some v3 ∧ w.cell? ⟨g, 4, none⟩ = some v4 ∧ w.cell? ⟨g, 5, none⟩ = some v5 ∧ w.cell? ⟨g, 6, none⟩ = some v6 ∧ w.frozen? ⟨g, 0, none⟩ = false ∧ w.frozen? ⟨g, 1, none⟩ = false ∧ w.frozen? ⟨g, 2, none⟩ = false ∧ w.frozen? ⟨g, 3, none⟩ = false ∧ w.frozen? ⟨g, 4, none⟩ = false ∧ w.frozen? ⟨g, 5, none⟩ = false ∧ w.frozen? ⟨g, 6, none⟩ = false := ⟨(blk_cell h 0).trans rfl, (blk_cell h 1).trans rfl, (blk_cell h 2).trans rfl, (blk_cell h 3).trans rfl, (blk_cell h 4).trans rfl, (blk_cell h 5).trans rfl, (blk_cell h 6).trans rfl, blk_frozen h 0, blk_frozen h 1, blk_frozen h 2, blk_frozen h 3, blk_frozen h 4, blk_frozen h 5, blk_frozen h 6⟩
theorem cz13_ {w : World} {g : Nat} {t : TypeId} {v0 v1 v2 v3 v4 v5 v6 v7 v8 v9 v10 v11 v12 : Value} (h : w.heap[g]? = some (.cells #[v0, v1, v2, v3, v4, v5, v6, v7, v8, v9, v10, v11, v12] t (0, 0))) : w.cell? ⟨g, 0, none⟩ = some v0 ∧ w.cell? ⟨g, 1, none⟩ = some v1 ∧ w.cell? ⟨g, 2, none⟩ = some v2 ∧ w.cell? ⟨g, 3, none⟩ = some v3 ∧ w.cell? ⟨g, 4, none⟩ = some v4 ∧ w.cell? ⟨g, 5, none⟩ = some v5 ∧ w.cell? ⟨g, 6, none⟩ = some v6 ∧ w.cell? ⟨g, 7, none⟩ = some v7 ∧ w.cell? ⟨g, 8, none⟩ = some v8 ∧ w.cell? ⟨g, 9, none⟩ = some v9 ∧ w.cell? ⟨g, 10, none⟩ = some v10 ∧ w.cell? ⟨g, 11, none⟩ = some v11 ∧ w.cell? ⟨g, 12, none⟩ = some v12 ∧ w.frozen? ⟨g, 0, none⟩ = false ∧ w.frozen? ⟨g, 1, none⟩ = false ∧ w.frozen? ⟨g, 2, none⟩ = false ∧ w.frozen? ⟨g, 3, none⟩ = false ∧ w.frozen? ⟨g, 4, none⟩ = false ∧ w.frozen? ⟨g, 5, none⟩ = false ∧ w.frozen? ⟨g, 6, none⟩ = false ∧ w.frozen? ⟨g, 7, none⟩ = false ∧ w.frozen? ⟨g, 8, none⟩ = false ∧ w.frozen? ⟨g, 9, none⟩ = false ∧ w.frozen? ⟨g, 10, none⟩ = false ∧ w.frozen? ⟨g, 11, none⟩ = false ∧ w.frozen? ⟨g, 12, none⟩ = false := ⟨(blk_cell h 0).trans rfl, (blk_cell h 1).trans rfl, (blk_cell h 2).trans rfl, (blk_cell h 3).trans rfl, (blk_cell h 4).trans rfl, (blk_cell h 5).trans rfl, (blk_cell h 6).trans rfl, (blk_cell h 7).trans rfl, (blk_cell h 8).trans rfl, (blk_cell h 9).trans rfl, (blk_cell h 10).trans rfl, (blk_cell h 11).trans rfl, (blk_cell h 12).trans rfl, blk_frozen h 0, blk_frozen h 1, blk_frozen h 2, blk_frozen h 3, blk_frozen h 4, blk_frozen h 5, blk_frozen h 6, blk_frozen h 7, blk_frozen h 8, blk_frozen h 9, blk_frozen h 10, blk_frozen h 11, blk_frozen h 12⟩
theorem pb13_ {w w1 : World} {a0 a1 a2 a3 a4 a5 a6 a7 a8 a9 a10 a11 a12 : Addr} {v0 v1 v2 v3 v4 v5 v6 v7 v8 v9 v10 v11 v12 : Value} (hb : Below w.heap.size w w1) (h0 : w.cell? a0 = some v0) (h1 : w.cell? a1 = some v1) (h2 : w.cell? a2 = some v2) (h3 : w.cell? a3 = some v3) (h4 : w.cell? a4 = some v4) (h5 : w.cell? a5 = some v5) (h6 : w.cell? a6 = some v6) (h7 : w.cell? a7 = some v7) (h8 : w.cell? a8 = some v8) (h9 : w.cell? a9 = some v9) (h10 : w.cell? a10 = some v10) (h11 : w.cell? a11 = some v11) (h12 : w.cell? a12 = some v12) : w1.cell? a0 = some v0 ∧ w1.cell? a1 = some v1 ∧ w1.cell? a2 = some v2 ∧ w1.cell? a3 = some v3 ∧ w1.cell? a4 = some v4 ∧ w1.cell? a5 = some v5 ∧ w1.cell? a6 = some v6 ∧ w1.cell? a7 = some v7 ∧ w1.cell? a8 = some v8 ∧ w1.cell? a9 = some v9 ∧ w1.cell? a10 = some v10 ∧ w1.cell? a11 = some v11 ∧ w1.cell? a12 = some v12 := ⟨pw_cell_below hb h0, pw_cell_below hb h1, pw_cell_below hb h2, pw_cell_below hb h3, pw_cell_below hb h4, pw_cell_below hb h5, pw_cell_below hb h6, pw_cell_below hb h7, pw_cell_below hb h8, pw_cell_below hb h9, pw_cell_below hb h10, pw_cell_below hb h11, pw_cell_below hb h12⟩
theorem on13_ {W w1 : World} {g : Nat} {a0 a1 a2 a3 a4 a5 a6 a7 a8 a9 a10 a11 a12 : Addr} {v0 v1 v2 v3 v4 v5 v6 v7 v8 v9 v10 v11 v12 : Value} (hO : Only W w1 g) (h0 : W.cell? a0 = some v0) (h1 : W.cell? a1 = some v1) (h2 : W.cell? a2 = some v2) (h3 : W.cell? a3 = some v3) (h4 : W.cell? a4 = some v4) (h5 : W.cell? a5 = some v5) (h6 : W.cell? a6 = some v6) (h7 : W.cell? a7 = some v7) (h8 : W.cell? a8 = some v8) (h9 : W.cell? a9 = some v9) (h10 : W.cell? a10 = some v10) (h11 : W.cell? a11 = some v11) (h12 : W.cell? a12 = some v12) (n0 : a0.block ≠ g) (n1 : a1.block ≠ g) (n2 : a2.block ≠ g) (n3 : a3.block ≠ g) (n4 : a4.block ≠ g) (n5 : a5.block ≠ g) (n6 : a6.block ≠ g) (n7 : a7.block ≠ g) (n8 : a8.block ≠ g) (n9 : a9.block ≠ g) (n10 : a10.block ≠ g) (n11 : a11.block ≠ g) (n12 : a12.block ≠ g) : w1.cell? a0 = some v0 ∧ w1.cell? a1 = some v1 ∧ w1.cell? a2 = some v2 ∧ w1.cell? a3 = some v3 ∧ w1.cell? a4 = some v4 ∧ w1.cell? a5 = some v5 ∧ w1.cell? a6 = some v6 ∧ w1.cell? a7 = some v7 ∧ w1.cell? a8 = some v8 ∧ w1.cell? a9 = some v9 ∧ w1.cell? a10 = some v10 ∧ w1.cell? a11 = some v11 ∧ w1.cell? a12 = some v12 := ⟨hO.cell h0 n0, hO.cell h1 n1, hO.cell h2 n2, hO.cell h3 n3, hO.cell h4 n4, hO.cell h5 n5, hO.cell h6 n6, hO.cell h7 n7, hO.cell h8 n8, hO.cell h9 n9, hO.cell h10 n10, hO.cell h11 n11, hO.cell h12 n12⟩
section
variable {P : Program} {ops : Array Oper} {rest : List Oper} {o : Oper} {a : Act} {Q : Exit → Act → World → Prop}
theorem st_event {W : World} {g o' : Nat} {e : TypeId} {cur : Array Value} (t : TypeId) (p : Tmp) (x : Operand) (u : Value) (seg : List Value) (new : Array Value)
    (hgd : o.guard = none) (hN : o.dst = none) (ho : o.op = .store t (.tmp p) x) (haddr : a.eval (.tmp p) = .pointer (some ⟨g, o', none⟩)) (hx : a.eval x = u) (hu : u.cells.toList = seg)
    (ht : (P.info? t).map (·.size) = some seg.length) (h1 : seg.all Value.oneCell' = true) (hh : W.heap[g]? = some (.cells cur e (0, 0))) (hfit : o' + seg.length ≤ cur.size)
    (hnew : new.toList = cur.toList.take o' ++ seg ++ cur.toList.drop (o' + seg.length))
    (h : ∀ w1, w1.heap[g]? = some (.cells new e (0, 0)) → Only W w1 g → wpList P ops Q rest a w1) : wpList P ops Q (o :: rest) a W := by
  have hrun : (Instr.storeAt t (.pointer (some ⟨g, o', none⟩)) u).run P W = .ok () (W.setCells g o' seg) := run_store_run t u seg hh hu ht hfit (fun q hq => List.all_eq_true.mp h1 q hq)
  obtain ⟨h2, h3⟩ := only_set hh hfit hnew
  refine wpList_plain hgd fun K hK => ?_
  unfold Oper.wp execOp
  simp only [ho, haddr, hx, Sem.run_bind, Sem.run_pure, Result.andThen_ok, hrun]
  show K (a.put o.dst undef) _
  rw [hN]
  exact hK a _ (h _ h2 h3)
theorem lit_event {W : World} (hgd : o.guard = none) {N : Tmp} (_hd : o.dst = some N) {cs : Array Value} {t : TypeId} {n : Nat}
    (hrun : (execOp a.eval o).run P W = .ok (.value (.slice (some ⟨W.heap.size, 0, none⟩) n n)) (W.alloc (.cells cs t (0, 0))))
    (h : ∀ g, g = W.heap.size → ∀ w1, w1.heap[g]? = some (.cells cs t (0, 0)) → Below W.heap.size W w1 → wpList P ops Q rest (a.put o.dst (.slice (some ⟨g, 0, none⟩) n n)) w1) : wpList P ops Q (o :: rest) a W :=
  Kd.event_run hgd hrun (h _ rfl _ (blk_new W _) (below_alloc (Below.refl _ _) _))
theorem start_w {id n : Nat} {S : World → Prop} {ds : List Nat} {a : Act} {w : World} (l : Array Bool) (hm : P.follows .mixedOrders = true) (hn : ops.size = n) (hl : Array.replicate n false = l)
    (h : ∀ w1, Below w.heap.size w w1 → wpAnyLast P .any ops Q S ds n l a w1) : (Code.region id ops true).wp P Q a w := by
  subst hn
  subst hl
  exact wp_region_last hm (h _ (below_drew (Below.refl _ _)))
theorem st_all {W : World} {g : Nat} {e : TypeId} {cur : Array Value} (p : Tmp) (seg : List Value) (t : TypeId) (x : Operand) (u : Value) (ht : (P.info? t).map (·.size) = some seg.length)
    (h0 : o.guard = none ∧ o.dst = none ∧ o.op = .store t (.tmp p) x ∧ a.eval (.tmp p) = .pointer (some ⟨g, 0, none⟩) ∧ a.eval x = u ∧ u.cells.toList = seg ∧ seg.all Value.oneCell' = true ∧ seg.length = cur.size) (hh : W.heap[g]? = some (.cells cur e (0, 0)))
    (h : ∀ w1, w1.heap[g]? = some (.cells seg.toArray e (0, 0)) → Only W w1 g → wpList P ops Q rest a w1) : wpList P ops Q (o :: rest) a W := by
  obtain ⟨h1, h2, h3, h4, h5, h6, h7, h8⟩ := h0
  refine st_event (o' := 0) t p x u seg seg.toArray h1 h2 h3 h4 h5 h6 ht h7 hh (by omega) ?_ h
  rw [List.take_zero, List.nil_append, Nat.zero_add, List.drop_of_length_le (by rw [Array.length_toList]; omega), List.append_nil]
theorem st_step {W : World} {K : Act → World → Prop} {g o' : Nat} {e : TypeId} {cur : Array Value} (t : TypeId) (p : Tmp) (x : Operand) (u : Value) (seg : List Value) (new : Array Value)
    (hw : Region.wanted o (yielded ops a.tmps) = true) (hN : o.dst = none) (ho : o.op = .store t (.tmp p) x) (haddr : a.eval (.tmp p) = .pointer (some ⟨g, o', none⟩)) (hx : a.eval x = u) (hu : u.cells.toList = seg)
    (ht : (P.info? t).map (·.size) = some seg.length) (h1 : seg.all Value.oneCell' = true) (hh : W.heap[g]? = some (.cells cur e (0, 0))) (hfit : o' + seg.length ≤ cur.size)
    (hnew : new.toList = cur.toList.take o' ++ seg ++ cur.toList.drop (o' + seg.length))
    (h : ∀ w1, w1.heap[g]? = some (.cells new e (0, 0)) → Only W w1 g → K a w1) : if Region.wanted o (yielded ops a.tmps) = true then Oper.wp P o a W K Q else K (a.put none undef) W := by
  have hrun : (Instr.storeAt t (.pointer (some ⟨g, o', none⟩)) u).run P W = .ok () (W.setCells g o' seg) := run_store_run t u seg hh hu ht hfit (fun q hq => List.all_eq_true.mp h1 q hq)
  obtain ⟨h2, h3⟩ := only_set hh hfit hnew
  refine skip_ hw hN ?_ (h _ h2 h3)
  unfold execOp
  simp only [ho, haddr, hx, Sem.run_bind, Sem.run_pure, Result.andThen_ok, hrun]
theorem st_allS {W : World} {K : Act → World → Prop} {g : Nat} {e : TypeId} {cur : Array Value} (p : Tmp) (seg : List Value) (t : TypeId) (x : Operand) (u : Value) (ht : (P.info? t).map (·.size) = some seg.length) (hw : Region.wanted o (yielded ops a.tmps) = true)
    (h0 : o.dst = none ∧ o.op = .store t (.tmp p) x ∧ a.eval (.tmp p) = .pointer (some ⟨g, 0, none⟩) ∧ a.eval x = u ∧ u.cells.toList = seg ∧ seg.all Value.oneCell' = true ∧ seg.length = cur.size) (hh : W.heap[g]? = some (.cells cur e (0, 0)))
    (h : ∀ w1, w1.heap[g]? = some (.cells seg.toArray e (0, 0)) → Only W w1 g → K a w1) : if Region.wanted o (yielded ops a.tmps) = true then Oper.wp P o a W K Q else K (a.put none undef) W := by
  obtain ⟨h2, h3, h4, h5, h6, h7, h8⟩ := h0
  refine st_step (o' := 0) t p x u seg seg.toArray hw h2 h3 h4 h5 h6 ht h7 hh (by omega) ?_ h
  rw [List.take_zero, List.nil_append, Nat.zero_add, List.drop_of_length_le (by rw [Array.length_toList]; omega), List.append_nil]
end
/-- A slice's value reads as these bytes. -/
def RdB (w : World) (v : Value) (l : List Int) : Prop := ∃ A c, v = .slice A l.length c ∧ l.length ≤ c ∧ Kd.C (Kd.int .u8) w A l.length l
theorem RdB.below {w w' : World} {v : Value} {l : List Int} (h : RdB w v l) (hb : Below w.heap.size w w') : RdB w' v l := by
  obtain ⟨A, c, e, h1, h2⟩ := h
  exact ⟨A, c, e, h1, Kd.C_below h2 hb⟩
abbrev RdL (w : World) (A : Option Addr) (c : Nat) (l : List Int) : Prop := l.length ≤ c ∧ Kd.C (Kd.int .u8) w A l.length l
theorem RdL.nil (w : World) : RdL w none 0 [] := ⟨Nat.le_refl _, Kd.C_nil _ _⟩
theorem RdB.nil (w : World) : RdB w (.slice none 0 0) [] := ⟨none, 0, rfl, Nat.le_refl _, Kd.C_nil _ _⟩
end Go.Proofs.Ytghhpgpcbnkamaa.P
