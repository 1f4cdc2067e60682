-- Written by printx.py (this work's driver over the kit's print) out of the translation; Lean checks it.
import Derived.Test.YtplhcnlpfoiieaaDoorXBuild
import Derived.Test.YtplhcnlpfoiieaaDoorShelf
import Derived.Test.YtplhcnlpfoiieaaDoorPx0
import Derived.Test.YtplhcnlpfoiieaaDoorPx27
import Derived.Test.YtplhcnlpfoiieaaDoorPx28
namespace Go.Proofs.YtplhcnlpfoiieaaDoor.P
open Go.RowKit Go.Proofs.YtplhcnlpfoiieaaDoorW.PrintWords Go.Proofs.YtplhcnlpfoiieaaDoorW.PrintLast Go.Proofs.YtplhcnlpfoiieaaDoorW.PrintMore
attribute [local go_sem] max2_int min2_int max_two min_two max_three min_three max_four min_four   -- for this text's walks alone
set_option linter.unusedVariables false
set_option linter.unusedSimpArgs false

/-! ### text_Join: function 27 -/
-- GIVEN
/-- A line of words, from the word i on, behind the bytes bs. -/
def text_Join.l0 : Nat → List (S45) → List UInt8 → Int → Option (ByteArray × Int × Int)
  | 0, _, _, _ => none
  | k + 1, x0, bs, x6 => if x6 < (x0.length : Int) then (if 0 ≤ x6 then (if bs.length < 1000000000000 then (if (rd_T45 x0 x6).f1 = true then ((text_Quote.f k ((rd_T45 x0 x6).f0)).bind fun q => (if q.size < 1000000000000 then (text_Join.l0 k x0 ((if x6 > 0 then bs ++ [32] else bs) ++ q.data.toList) (wrap64 (x6 + 1))) else (none))) else ((text_bare.f k ((rd_T45 x0 x6).f0)).bind fun t => (if t = true then (if ((rd_T45 x0 x6).f0).size < 1000000000000 then (text_Join.l0 k x0 ((if x6 > 0 then bs ++ [32] else bs) ++ ((rd_T45 x0 x6).f0).data.toList) (wrap64 (x6 + 1))) else (none)) else (some ((⟨#[]⟩ : ByteArray), x6, 14))))) else (none)) else (none)) else (if (bs.length : Int) > 4096 then (some ((⟨#[]⟩ : ByteArray), 4096, 10)) else (some ((⟨bs.toArray⟩ : ByteArray), 0, 0)))
def text_Join.f (k : Nat) (l0 : List (S45)) : Option (ByteArray × Int × Int) := if (l0.length : Int) > 64 then (some ((⟨#[]⟩ : ByteArray), 0, 18)) else (text_Join.l0 k l0 [] 0)
theorem text_Join.mono_l : ∀ k, (∀ y0 y1 y2, LeO (text_Join.l0 k y0 y1 y2) (text_Join.l0 (k + 1) y0 y1 y2))
  | 0 => fun _ _ _ r h => by simp [text_Join.l0] at h
  | k + 1 => by
    have ih0 := text_Join.mono_l k
    intro y0 y1 y2
    unfold text_Join.l0
    repeat' first
      | (with_reducible exact ih0 _ _ _)
      | (with_reducible exact text_bare.mono _ _)
      | (with_reducible exact text_Quote.mono _ _)
      | (with_reducible exact LeO.refl _)
      | (with_reducible exact LeO.none _)
      | (with_reducible refine LeO.ite ?_ ?_)
      | (with_reducible refine LeO.bind ?_ (fun _ => ?_))
      | exact ih0 _ _ _
      | exact LeO.none _
      | refine LeO.ite ?_ ?_
      | refine LeO.bind ?_ (fun _ => ?_)
theorem text_Join.mono : ∀ a0 k, LeO (text_Join.f k a0) (text_Join.f (k + 1) a0) := by
  intro a0 k
  have ih0 := text_Join.mono_l k
  unfold text_Join.f
  repeat' first
      | (with_reducible exact ih0 _ _ _)
      | (with_reducible exact LeO.refl _)
      | (with_reducible refine LeO.ite ?_ ?_)
      | exact ih0 _ _ _
      | refine LeO.ite ?_ ?_
abbrev text_Join.IsB (w : World) (B b : Nat) (bs : List UInt8) : Prop := Lib.IsBuilderF 86 5 B b (Lib.byteCells bs) w
theorem text_Join.below {w w1 : World} {B b : Nat} {bs : List UInt8} (h : text_Join.IsB w B b bs) (hb : Below w.heap.size w w1) : text_Join.IsB w1 B b bs := by
  have one : ∀ p, Lib.BuilderAtF 86 5 B b p (Lib.byteCells bs) w → Lib.BuilderAtF 86 5 B b p (Lib.byteCells bs) w1 := by
    intro p h
    obtain ⟨hB, v, hk, hown, hne⟩ := h
    refine ⟨hB, v, blk_below hk hb, hown.kept (row := none) (grown_of_below hb none) ?_, hne⟩
    cases v.ownBlock with
    | none => exact .inl rfl
    | some x => exact .inr (by simp)
  exact h.elim (fun h => .inl (one _ h)) (fun h => .inr (one _ h))
theorem text_Join.lt {w : World} {B b : Nat} {bs : List UInt8} (h : text_Join.IsB w B b bs) : b < w.heap.size := h.elim (fun h => h.lt) (fun h => h.lt)
theorem text_Join.far {w : World} {B b g : Nat} {bs : List UInt8} {cs : Array Value} {t : TypeId} (h : text_Join.IsB w B b bs) (hg : w.heap[g]? = some (.cells cs t (0, 0))) (hne : g ≠ b) (ht : t ≠ 5) (j : Nat) (u : Value) : text_Join.IsB (w.setCell ⟨g, j, none⟩ u) B b bs := by
  have one : ∀ p, Lib.BuilderAtF 86 5 B b p (Lib.byteCells bs) w → Lib.BuilderAtF 86 5 B b p (Lib.byteCells bs) (w.setCell ⟨g, j, none⟩ u) := by
    intro p h
    obtain ⟨hB, v, hk, hown, hn⟩ := h
    refine ⟨hB, v, ?_, hown.kept (row := some g) ⟨rfl, rfl, rfl, by simp [World.setCell], fun k _ hk => Below.heap_setCell _ _ _ _ (fun e => hk (by simp [e]))⟩ (.inr ?_), hn⟩
    · rw [Below.heap_setCell _ _ _ _ (fun e => hne e.symm)]; exact hk
    · rcases hown.2 with ⟨rfl, _⟩ | ⟨g', cap, cur, fz, rfl, _, hgg, _⟩
      · simp [Value.ownBlock]
      · intro e
        simp only [Value.ownBlock, Option.some.injEq] at e
        subst e
        rw [hgg] at hg
        simp only [Option.some.injEq, Obj.cells.injEq] at hg
        exact ht hg.2.1.symm
  exact h.elim (fun h => .inl (one _ h)) (fun h => .inr (one _ h))
theorem text_Join.stored {w w2 : World} {B b g : Nat} {bs : List UInt8} {x0 x1 x2 : Value} (hI : text_Join.IsB w2 B b bs) (hk : w2.heap[g]? = some (.cells #[x0, x1, x2] 45 (0, 0))) (hne : g ≠ b) (hB : Below w.heap.size w w2) (hg : w.heap.size ≤ g) (a0 a1 a2 : Value) :
    text_Join.IsB (((w2.setCell ⟨g, 0, none⟩ a0).setCell ⟨g, 1, none⟩ a1).setCell ⟨g, 2, none⟩ a2) B b bs ∧ (((w2.setCell ⟨g, 0, none⟩ a0).setCell ⟨g, 1, none⟩ a1).setCell ⟨g, 2, none⟩ a2).heap[g]? = some (.cells #[a0, a1, a2] 45 (0, 0)) ∧ Below w.heap.size w (((w2.setCell ⟨g, 0, none⟩ a0).setCell ⟨g, 1, none⟩ a1).setCell ⟨g, 2, none⟩ a2) := by
  have k0 : (w2.setCell ⟨g, 0, none⟩ a0).heap[g]? = some (.cells #[a0, x1, x2] 45 (0, 0)) := by refine blk_put (cs := #[x0, x1, x2]) ?_ 0 _ rfl; exact hk
  have k1 : ((w2.setCell ⟨g, 0, none⟩ a0).setCell ⟨g, 1, none⟩ a1).heap[g]? = some (.cells #[a0, a1, x2] 45 (0, 0)) := by refine blk_put (cs := #[a0, x1, x2]) ?_ 1 _ rfl; exact k0
  have k2 : (((w2.setCell ⟨g, 0, none⟩ a0).setCell ⟨g, 1, none⟩ a1).setCell ⟨g, 2, none⟩ a2).heap[g]? = some (.cells #[a0, a1, a2] 45 (0, 0)) := by refine blk_put (cs := #[a0, a1, x2]) ?_ 2 _ rfl; exact k1
  exact ⟨text_Join.far (text_Join.far (text_Join.far hI hk hne (by decide) 0 a0) k0 hne (by decide) 1 a1) k1 hne (by decide) 2 a2, k2, below_set (below_set (below_set hB hg) hg) hg⟩
theorem text_Join.others {w w1 : World} {b g : Nat} {cs : Array Value} (h : Lib.OthersKept 5 (some b) w w1) (hk : w.heap[g]? = some (.cells cs 45 (0, 0))) (hne : g ≠ b) : w1.heap[g]? = some (.cells cs 45 (0, 0)) :=
  h g _ hk (by simp [hne]) (fun c fz e => by simp at e)
theorem text_Join.cells1 (bs : List UInt8) : Lib.byteCells bs ++ [.int .u8 32] = Lib.byteCells (bs ++ [32]) := by rw [Lib.byteCells_append]; rfl
theorem text_Join.cells2 (bs : List UInt8) (s : ByteArray) : Lib.byteCells bs ++ Lib.strCells s = Lib.byteCells (bs ++ s.data.toList) := by rw [Lib.byteCells_append]; rfl
set_option maxHeartbeats 8000000 in
set_option maxRecDepth 100000 in
theorem text_Join.calls (k : Nat) (A0 : Option Addr) (c0 : Nat) (l0 : List (S45)) (r1 : ByteArray) (r2 : Int) (r3 : Int) (w : World) (hr0 : Kd.C k45 w A0 l0.length l0) (hc0 : l0.length ≤ c0) (h : text_Join.f k l0 = some (r1, r2, r3)) :
    Calls Tryd.prog 27 #[.slice A0 l0.length c0] w fun e w' => e = .returned (.tuple #[.string r1, .int .i64 r2, .int .i64 r3]) ∧ Below w.heap.size w w' := by
  have hu := Tryd.underlying45
  have hu2 := Tryd.underlying86
  have HR0 := Aside0.mk hr0
  have HC0 := Aside0.mk hc0
  clear hr0 hc0
  have HB := Aside0.mk (Below.refl w.heap.size w)
  unfold text_Join.f at h
  by_cases c2 : (l0.length : Int) > 64
  · rw [if_pos c2] at h
    have c2b0 : decide (64 < (l0.length : Int)) = true := decide_eq_true c2
    have c2b1 : decide (64 < l0.length) = true := decide_eq_true (by omega)
    clear c2
    simp only [Option.some.injEq, Prod.mk.injEq] at h
    obtain ⟨rfl, rfl, rfl⟩ := h
    go_enter Tryd.func27, Tryd.ntmps27
    go_wp2
    go_ret3
    exact ⟨by first | rfl | (simp; done), by repeat (first | (with_reducible first | exact HB.out | apply below_alloc | apply pw_below_drewN | apply below_drew1) | exact HB.out)⟩
  · rw [if_neg c2] at h
    have c2b0 : decide (64 < (l0.length : Int)) = false := decide_eq_false c2
    have c2b1 : decide (64 < l0.length) = false := decide_eq_false (by omega)
    clear c2
    have H' := Aside0.mk h
    clear h
    go_enter Tryd.func27, Tryd.ntmps27
    go_wp2_with ((with_reducible refine gate_dst (N := 5) rfl ?_); refine box_event ?hg (N := 5) ?hd (cs := #[.pointer none, .slice none 0 0]) (t := 86) ?hr ?_; (case hd => rfl); (case hg => rfl); (case hr => first | (go_simp; done) | (go_simp; rfl)); intro gb hgb w1 hbox hb; have HI := Aside0.mk (show text_Join.IsB w1 w.heap.size gb [] from .inl ⟨by rw [hgb]; exact below_size HB.out, .slice none 0 0, hbox, World.ownsRowF_nil _ _ _ _, by simp [Value.ownBlock]⟩); have n1_ := Aside0.mk (below_step HB.out hb); clear HB hbox hb hgb; have HB := n1_; clear n1_)
    go_loopg [13] k (fun kq v13 w' => ∃ (bs : List UInt8) (x6 : Int), v13 = .int .i64 x6 ∧ Aside0 (text_Join.l0 kq l0 bs x6 = some (r1, r2, r3)) ∧ Aside0 (kq ≤ k) ∧ Aside0 (text_Join.IsB w' w.heap.size gb bs) ∧ Aside0 (Below w.heap.size w w'))
    case atStart => exact ⟨[], 0, (by first | rfl | (simp; done) | (simp [*]; done)), H', ⟨Nat.le_refl _⟩, HI, HB⟩
    case round =>
      clear H' HI HB
      try clear c2b0
      try clear c2b1
      try clear p2
      obtain ⟨bs, x6, rfl, HA, HK1, HI, HB⟩ := hrel
      cases gk with
      | zero => exact absurd HA.out (by simp [text_Join.l0])
      | succ k1 =>
        have H := HA.out
        clear HA
        simp only [text_Join.l0] at H
        by_cases c3 : x6 < (l0.length : Int)
        · rw [if_pos c3] at H
          by_cases c4 : 0 ≤ x6
          · rw [if_pos c4] at H
            by_cases c5 : bs.length < 1000000000000
            · rw [if_pos c5] at H
              have LB := Aside0.mk c5
              clear c5
              obtain ⟨ad, e0, hx_0, hx_1, hx_2⟩ := at_T45 HR0.out x6 c4 c3
              cases e0
              replace hx_0 := (HB.out.cell (World.block_lt_of_cell? w _ hx_0)).trans hx_0
              replace hx_1 := (HB.out.cell (World.block_lt_of_cell? w _ hx_1)).trans hx_1
              replace hx_2 := (HB.out.cell (World.block_lt_of_cell? w _ hx_2)).trans hx_2
              have c3b0 : decide (x6 < (l0.length : Int)) = true := decide_eq_true c3
              have c4b0 : decide (0 ≤ x6) = true := decide_eq_true c4
              have c3t := eq_true c3
              have c4t := eq_true c4
              obtain ⟨bq, hbq⟩ : ∃ b_ : Bool, b_ = ((rd_T45 l0 x6).f1) := ⟨_, rfl⟩
              rw [← hbq] at H hx_1
              clear hbq
              clear c3 c4
              cases bq with
              | true =>
                rw [if_pos rfl] at H
                replace H := Option.bind_eq_some_iff.mp H
                obtain ⟨q, A7, H⟩ := H
                by_cases c6 : q.size < 1000000000000
                · rw [if_pos c6] at H
                  have LQ := Aside0.mk c6
                  clear c6
                  have AQ := Aside0.mk A7
                  clear A7
                  by_cases c8 : x6 > 0
                  · rw [if_pos c8] at H
                    have c8b0 : decide (0 < x6) = true := decide_eq_true c8
                    clear c8
                    have H' := Aside0.mk H
                    clear H
                    go_wp2_with (first | ((with_reducible refine gate_dst (N := 7) rfl ?_); refine box_event ?hg (N := 7) ?hd (cs := #[.string ⟨#[]⟩, .bool false, .int .i64 0]) (t := 45) ?hr ?_; (case hd => rfl); (case hg => rfl); (case hr => first | (go_simp; done) | (go_simp; rfl)); intro gw hgw w2 hbox hb; have n0_ := Aside0.mk (text_Join.below HI.out hb); have n1_ := Aside0.mk (below_step HB.out hb); have n2_ := Aside0.mk hbox; have n3_ := Aside0.mk (show w.heap.size ≤ gw by rw [hgw]; exact below_size HB.out); have n4_ := Aside0.mk (show gw ≠ gb by have h_ := text_Join.lt HI.out; omega); clear HI HB hbox hb hgw; have HI := n0_; have HB := n1_; have BK := n2_; have GW := n3_; have GN := n4_; clear n0_ n1_ n2_ n3_ n4_; have hz0 : w2.cell? ⟨gw, 0, none⟩ = some (.string ⟨#[]⟩) := (blk_cell BK.out 0).trans rfl; have hz1 : w2.cell? ⟨gw, 1, none⟩ = some (.bool false) := (blk_cell BK.out 1).trans rfl; have hz2 : w2.cell? ⟨gw, 2, none⟩ = some (.int .i64 0) := (blk_cell BK.out 2).trans rfl; have hf0 := blk_frozen BK.out 0; have hf1 := blk_frozen BK.out 1; have hf2 := blk_frozen BK.out 2) | (go_at_call 51; refine (XB.writeByte_k w.heap.size gb (Lib.byteCells bs) 32 _ (text_Join.stored HI.out BK.out GN.out HB.out GW.out _ _ _).1 (by rw [Lib.byteCells_length]; have := LB.out; omega) (below_size (text_Join.stored HI.out BK.out GN.out HB.out GW.out _ _ _).2.2)).mono ?_; rintro e w4 ⟨rfl, hA, hb, hO⟩; rw [text_Join.cells1] at hA; have n0_ := Aside0.mk (show text_Join.IsB w4 w.heap.size gb (bs ++ [32]) from .inr hA); have n1_ := Aside0.mk (show Below w.heap.size w w4 from Below.trans (text_Join.stored HI.out BK.out GN.out HB.out GW.out _ _ _).2.2 hb); have n2_ := Aside0.mk (text_Join.others hO (text_Join.stored HI.out BK.out GN.out HB.out GW.out _ _ _).2.1 GN.out); clear HI HB BK hA hb hO hz0 hz1 hz2 hf0 hf1 hf2; have HI := n0_; have HB := n1_; have BK := n2_; clear n0_ n1_ n2_; have hz0 := (blk_cell BK.out 0).trans (rfl : _ = some (Value.string _)); have hz1 := (blk_cell BK.out 1).trans (rfl : _ = some (Value.bool _)); have hf0 := blk_frozen BK.out 0; have hf1 := blk_frozen BK.out 1) | (go_at_call 24; refine (text_Quote.calls k1 ((rd_T45 l0 x6).f0) q _ AQ.out).mono ?_; rintro e w5 ⟨rfl, hb⟩; have n0_ := Aside0.mk (text_Join.below HI.out hb); have n1_ := Aside0.mk (below_step HB.out hb); have n2_ := Aside0.mk (blk_below BK.out hb); clear HI HB BK hb; (try clear hz0); (try clear hz1); (try clear hz2); (try clear hf0); (try clear hf1); (try clear hf2); have HI := n0_; have HB := n1_; have BK := n2_; clear n0_ n1_ n2_; have hz0 := (blk_cell BK.out 0).trans (rfl : _ = some (Value.string _)); have hz1 := (blk_cell BK.out 1).trans (rfl : _ = some (Value.bool _)); have hf0 := blk_frozen BK.out 0; have hf1 := blk_frozen BK.out 1) | (go_at_call 52; refine (XB.writeString_k w.heap.size gb (Lib.byteCells (bs ++ [32])) q _ HI.out (by rw [Lib.byteCells_length]; have := LB.out; have := LQ.out; (try rw [List.length_append, List.length_singleton]); omega) (below_size HB.out)).mono ?_; rintro e w6 ⟨rfl, hA, hb, hO⟩; rw [text_Join.cells2] at hA; have n0_ := Aside0.mk (show text_Join.IsB w6 w.heap.size gb ((bs ++ [32]) ++ q.data.toList) from .inr hA); have n1_ := Aside0.mk (show Below w.heap.size w w6 from Below.trans HB.out hb); clear HI HB BK hA hb hO; (try clear hz0); (try clear hz1); (try clear hf0); (try clear hf1); have HI := n0_; have HB := n1_; clear n0_ n1_))
                    go_roundg k1
                    case measure => have := HK1.out; omega
                    case rel => exact ⟨_, (wrap64 (x6 + 1)), (by first | rfl | (simp; done) | (simp [*]; done)), H', ⟨by have := HK1.out; omega⟩, HI, HB⟩
                  · rw [if_neg c8] at H
                    have c8b0 : decide (0 < x6) = false := decide_eq_false c8
                    clear c8
                    have H' := Aside0.mk H
                    clear H
                    go_wp2_with (first | ((with_reducible refine gate_dst (N := 7) rfl ?_); refine box_event ?hg (N := 7) ?hd (cs := #[.string ⟨#[]⟩, .bool false, .int .i64 0]) (t := 45) ?hr ?_; (case hd => rfl); (case hg => rfl); (case hr => first | (go_simp; done) | (go_simp; rfl)); intro gw hgw w2 hbox hb; have n0_ := Aside0.mk (text_Join.below HI.out hb); have n1_ := Aside0.mk (below_step HB.out hb); have n2_ := Aside0.mk hbox; have n3_ := Aside0.mk (show w.heap.size ≤ gw by rw [hgw]; exact below_size HB.out); have n4_ := Aside0.mk (show gw ≠ gb by have h_ := text_Join.lt HI.out; omega); clear HI HB hbox hb hgw; have HI := n0_; have HB := n1_; have BK := n2_; have GW := n3_; have GN := n4_; clear n0_ n1_ n2_ n3_ n4_; have hz0 : w2.cell? ⟨gw, 0, none⟩ = some (.string ⟨#[]⟩) := (blk_cell BK.out 0).trans rfl; have hz1 : w2.cell? ⟨gw, 1, none⟩ = some (.bool false) := (blk_cell BK.out 1).trans rfl; have hz2 : w2.cell? ⟨gw, 2, none⟩ = some (.int .i64 0) := (blk_cell BK.out 2).trans rfl; have hf0 := blk_frozen BK.out 0; have hf1 := blk_frozen BK.out 1; have hf2 := blk_frozen BK.out 2) | (go_at_call 24; refine (text_Quote.calls k1 ((rd_T45 l0 x6).f0) q _ AQ.out).mono ?_; rintro e w5 ⟨rfl, hb⟩; have n0_ := Aside0.mk (text_Join.below (text_Join.stored HI.out BK.out GN.out HB.out GW.out _ _ _).1 hb); have n1_ := Aside0.mk (below_step (text_Join.stored HI.out BK.out GN.out HB.out GW.out _ _ _).2.2 hb); have n2_ := Aside0.mk (blk_below (text_Join.stored HI.out BK.out GN.out HB.out GW.out _ _ _).2.1 hb); clear HI HB BK hb; (try clear hz0); (try clear hz1); (try clear hz2); (try clear hf0); (try clear hf1); (try clear hf2); have HI := n0_; have HB := n1_; have BK := n2_; clear n0_ n1_ n2_; have hz0 := (blk_cell BK.out 0).trans (rfl : _ = some (Value.string _)); have hz1 := (blk_cell BK.out 1).trans (rfl : _ = some (Value.bool _)); have hf0 := blk_frozen BK.out 0; have hf1 := blk_frozen BK.out 1) | (go_at_call 52; refine (XB.writeString_k w.heap.size gb (Lib.byteCells bs) q _ HI.out (by rw [Lib.byteCells_length]; have := LB.out; have := LQ.out; (try rw [List.length_append, List.length_singleton]); omega) (below_size HB.out)).mono ?_; rintro e w6 ⟨rfl, hA, hb, hO⟩; rw [text_Join.cells2] at hA; have n0_ := Aside0.mk (show text_Join.IsB w6 w.heap.size gb (bs ++ q.data.toList) from .inr hA); have n1_ := Aside0.mk (show Below w.heap.size w w6 from Below.trans HB.out hb); clear HI HB BK hA hb hO; (try clear hz0); (try clear hz1); (try clear hf0); (try clear hf1); have HI := n0_; have HB := n1_; clear n0_ n1_))
                    go_roundg k1
                    case measure => have := HK1.out; omega
                    case rel => exact ⟨_, (wrap64 (x6 + 1)), (by first | rfl | (simp; done) | (simp [*]; done)), H', ⟨by have := HK1.out; omega⟩, HI, HB⟩
                · rw [if_neg c6] at H
                  exact absurd H (by simp)
              | false =>
                rw [if_neg (show ¬ (false = true) by decide)] at H
                replace H := Option.bind_eq_some_iff.mp H
                obtain ⟨t, A7, H⟩ := H
                have AQ := Aside0.mk A7
                clear A7
                cases t with
                | true =>
                  rw [if_pos rfl] at H
                  by_cases c6 : ((rd_T45 l0 x6).f0).size < 1000000000000
                  · rw [if_pos c6] at H
                    have LQ := Aside0.mk c6
                    clear c6
                    by_cases c8 : x6 > 0
                    · rw [if_pos c8] at H
                      have c8b0 : decide (0 < x6) = true := decide_eq_true c8
                      clear c8
                      have H' := Aside0.mk H
                      clear H
                      go_wp2_with (first | ((with_reducible refine gate_dst (N := 7) rfl ?_); refine box_event ?hg (N := 7) ?hd (cs := #[.string ⟨#[]⟩, .bool false, .int .i64 0]) (t := 45) ?hr ?_; (case hd => rfl); (case hg => rfl); (case hr => first | (go_simp; done) | (go_simp; rfl)); intro gw hgw w2 hbox hb; have n0_ := Aside0.mk (text_Join.below HI.out hb); have n1_ := Aside0.mk (below_step HB.out hb); have n2_ := Aside0.mk hbox; have n3_ := Aside0.mk (show w.heap.size ≤ gw by rw [hgw]; exact below_size HB.out); have n4_ := Aside0.mk (show gw ≠ gb by have h_ := text_Join.lt HI.out; omega); clear HI HB hbox hb hgw; have HI := n0_; have HB := n1_; have BK := n2_; have GW := n3_; have GN := n4_; clear n0_ n1_ n2_ n3_ n4_; have hz0 : w2.cell? ⟨gw, 0, none⟩ = some (.string ⟨#[]⟩) := (blk_cell BK.out 0).trans rfl; have hz1 : w2.cell? ⟨gw, 1, none⟩ = some (.bool false) := (blk_cell BK.out 1).trans rfl; have hz2 : w2.cell? ⟨gw, 2, none⟩ = some (.int .i64 0) := (blk_cell BK.out 2).trans rfl; have hf0 := blk_frozen BK.out 0; have hf1 := blk_frozen BK.out 1; have hf2 := blk_frozen BK.out 2) | (go_at_call 51; refine (XB.writeByte_k w.heap.size gb (Lib.byteCells bs) 32 _ (text_Join.stored HI.out BK.out GN.out HB.out GW.out _ _ _).1 (by rw [Lib.byteCells_length]; have := LB.out; omega) (below_size (text_Join.stored HI.out BK.out GN.out HB.out GW.out _ _ _).2.2)).mono ?_; rintro e w4 ⟨rfl, hA, hb, hO⟩; rw [text_Join.cells1] at hA; have n0_ := Aside0.mk (show text_Join.IsB w4 w.heap.size gb (bs ++ [32]) from .inr hA); have n1_ := Aside0.mk (show Below w.heap.size w w4 from Below.trans (text_Join.stored HI.out BK.out GN.out HB.out GW.out _ _ _).2.2 hb); have n2_ := Aside0.mk (text_Join.others hO (text_Join.stored HI.out BK.out GN.out HB.out GW.out _ _ _).2.1 GN.out); clear HI HB BK hA hb hO hz0 hz1 hz2 hf0 hf1 hf2; have HI := n0_; have HB := n1_; have BK := n2_; clear n0_ n1_ n2_; have hz0 := (blk_cell BK.out 0).trans (rfl : _ = some (Value.string _)); have hz1 := (blk_cell BK.out 1).trans (rfl : _ = some (Value.bool _)); have hf0 := blk_frozen BK.out 0; have hf1 := blk_frozen BK.out 1) | (go_at_call 53; refine (text_bare.calls k1 ((rd_T45 l0 x6).f0) true _ AQ.out).mono ?_; rintro e w5 ⟨rfl, hb⟩; have n0_ := Aside0.mk (text_Join.below HI.out hb); have n1_ := Aside0.mk (below_step HB.out hb); have n2_ := Aside0.mk (blk_below BK.out hb); clear HI HB BK hb; (try clear hz0); (try clear hz1); (try clear hz2); (try clear hf0); (try clear hf1); (try clear hf2); have HI := n0_; have HB := n1_; have BK := n2_; clear n0_ n1_ n2_; have hz0 := (blk_cell BK.out 0).trans (rfl : _ = some (Value.string _)); have hz1 := (blk_cell BK.out 1).trans (rfl : _ = some (Value.bool _)); have hf0 := blk_frozen BK.out 0; have hf1 := blk_frozen BK.out 1) | (go_at_call 52; refine (XB.writeString_k w.heap.size gb (Lib.byteCells (bs ++ [32])) ((rd_T45 l0 x6).f0) _ HI.out (by rw [Lib.byteCells_length]; have := LB.out; have := LQ.out; (try rw [List.length_append, List.length_singleton]); omega) (below_size HB.out)).mono ?_; rintro e w6 ⟨rfl, hA, hb, hO⟩; rw [text_Join.cells2] at hA; have n0_ := Aside0.mk (show text_Join.IsB w6 w.heap.size gb ((bs ++ [32]) ++ ((rd_T45 l0 x6).f0).data.toList) from .inr hA); have n1_ := Aside0.mk (show Below w.heap.size w w6 from Below.trans HB.out hb); clear HI HB BK hA hb hO; (try clear hz0); (try clear hz1); (try clear hf0); (try clear hf1); have HI := n0_; have HB := n1_; clear n0_ n1_))
                      go_roundg k1
                      case measure => have := HK1.out; omega
                      case rel => exact ⟨_, (wrap64 (x6 + 1)), (by first | rfl | (simp; done) | (simp [*]; done)), H', ⟨by have := HK1.out; omega⟩, HI, HB⟩
                    · rw [if_neg c8] at H
                      have c8b0 : decide (0 < x6) = false := decide_eq_false c8
                      clear c8
                      have H' := Aside0.mk H
                      clear H
                      go_wp2_with (first | ((with_reducible refine gate_dst (N := 7) rfl ?_); refine box_event ?hg (N := 7) ?hd (cs := #[.string ⟨#[]⟩, .bool false, .int .i64 0]) (t := 45) ?hr ?_; (case hd => rfl); (case hg => rfl); (case hr => first | (go_simp; done) | (go_simp; rfl)); intro gw hgw w2 hbox hb; have n0_ := Aside0.mk (text_Join.below HI.out hb); have n1_ := Aside0.mk (below_step HB.out hb); have n2_ := Aside0.mk hbox; have n3_ := Aside0.mk (show w.heap.size ≤ gw by rw [hgw]; exact below_size HB.out); have n4_ := Aside0.mk (show gw ≠ gb by have h_ := text_Join.lt HI.out; omega); clear HI HB hbox hb hgw; have HI := n0_; have HB := n1_; have BK := n2_; have GW := n3_; have GN := n4_; clear n0_ n1_ n2_ n3_ n4_; have hz0 : w2.cell? ⟨gw, 0, none⟩ = some (.string ⟨#[]⟩) := (blk_cell BK.out 0).trans rfl; have hz1 : w2.cell? ⟨gw, 1, none⟩ = some (.bool false) := (blk_cell BK.out 1).trans rfl; have hz2 : w2.cell? ⟨gw, 2, none⟩ = some (.int .i64 0) := (blk_cell BK.out 2).trans rfl; have hf0 := blk_frozen BK.out 0; have hf1 := blk_frozen BK.out 1; have hf2 := blk_frozen BK.out 2) | (go_at_call 53; refine (text_bare.calls k1 ((rd_T45 l0 x6).f0) true _ AQ.out).mono ?_; rintro e w5 ⟨rfl, hb⟩; have n0_ := Aside0.mk (text_Join.below (text_Join.stored HI.out BK.out GN.out HB.out GW.out _ _ _).1 hb); have n1_ := Aside0.mk (below_step (text_Join.stored HI.out BK.out GN.out HB.out GW.out _ _ _).2.2 hb); have n2_ := Aside0.mk (blk_below (text_Join.stored HI.out BK.out GN.out HB.out GW.out _ _ _).2.1 hb); clear HI HB BK hb; (try clear hz0); (try clear hz1); (try clear hz2); (try clear hf0); (try clear hf1); (try clear hf2); have HI := n0_; have HB := n1_; have BK := n2_; clear n0_ n1_ n2_; have hz0 := (blk_cell BK.out 0).trans (rfl : _ = some (Value.string _)); have hz1 := (blk_cell BK.out 1).trans (rfl : _ = some (Value.bool _)); have hf0 := blk_frozen BK.out 0; have hf1 := blk_frozen BK.out 1) | (go_at_call 52; refine (XB.writeString_k w.heap.size gb (Lib.byteCells bs) ((rd_T45 l0 x6).f0) _ HI.out (by rw [Lib.byteCells_length]; have := LB.out; have := LQ.out; (try rw [List.length_append, List.length_singleton]); omega) (below_size HB.out)).mono ?_; rintro e w6 ⟨rfl, hA, hb, hO⟩; rw [text_Join.cells2] at hA; have n0_ := Aside0.mk (show text_Join.IsB w6 w.heap.size gb (bs ++ ((rd_T45 l0 x6).f0).data.toList) from .inr hA); have n1_ := Aside0.mk (show Below w.heap.size w w6 from Below.trans HB.out hb); clear HI HB BK hA hb hO; (try clear hz0); (try clear hz1); (try clear hf0); (try clear hf1); have HI := n0_; have HB := n1_; clear n0_ n1_))
                      go_roundg k1
                      case measure => have := HK1.out; omega
                      case rel => exact ⟨_, (wrap64 (x6 + 1)), (by first | rfl | (simp; done) | (simp [*]; done)), H', ⟨by have := HK1.out; omega⟩, HI, HB⟩
                  · rw [if_neg c6] at H
                    exact absurd H (by simp)
                | false =>
                  rw [if_neg (show ¬ (false = true) by decide)] at H
                  simp only [Option.some.injEq, Prod.mk.injEq] at H
                  obtain ⟨rfl, rfl, rfl⟩ := H
                  by_cases c8 : x6 > 0
                  · have c8b0 : decide (0 < x6) = true := decide_eq_true c8
                    clear c8
                    go_wp2_with (first | ((with_reducible refine gate_dst (N := 7) rfl ?_); refine box_event ?hg (N := 7) ?hd (cs := #[.string ⟨#[]⟩, .bool false, .int .i64 0]) (t := 45) ?hr ?_; (case hd => rfl); (case hg => rfl); (case hr => first | (go_simp; done) | (go_simp; rfl)); intro gw hgw w2 hbox hb; have n0_ := Aside0.mk (text_Join.below HI.out hb); have n1_ := Aside0.mk (below_step HB.out hb); have n2_ := Aside0.mk hbox; have n3_ := Aside0.mk (show w.heap.size ≤ gw by rw [hgw]; exact below_size HB.out); have n4_ := Aside0.mk (show gw ≠ gb by have h_ := text_Join.lt HI.out; omega); clear HI HB hbox hb hgw; have HI := n0_; have HB := n1_; have BK := n2_; have GW := n3_; have GN := n4_; clear n0_ n1_ n2_ n3_ n4_; have hz0 : w2.cell? ⟨gw, 0, none⟩ = some (.string ⟨#[]⟩) := (blk_cell BK.out 0).trans rfl; have hz1 : w2.cell? ⟨gw, 1, none⟩ = some (.bool false) := (blk_cell BK.out 1).trans rfl; have hz2 : w2.cell? ⟨gw, 2, none⟩ = some (.int .i64 0) := (blk_cell BK.out 2).trans rfl; have hf0 := blk_frozen BK.out 0; have hf1 := blk_frozen BK.out 1; have hf2 := blk_frozen BK.out 2) | (go_at_call 51; refine (XB.writeByte_k w.heap.size gb (Lib.byteCells bs) 32 _ (text_Join.stored HI.out BK.out GN.out HB.out GW.out _ _ _).1 (by rw [Lib.byteCells_length]; have := LB.out; omega) (below_size (text_Join.stored HI.out BK.out GN.out HB.out GW.out _ _ _).2.2)).mono ?_; rintro e w4 ⟨rfl, hA, hb, hO⟩; rw [text_Join.cells1] at hA; have n0_ := Aside0.mk (show text_Join.IsB w4 w.heap.size gb (bs ++ [32]) from .inr hA); have n1_ := Aside0.mk (show Below w.heap.size w w4 from Below.trans (text_Join.stored HI.out BK.out GN.out HB.out GW.out _ _ _).2.2 hb); have n2_ := Aside0.mk (text_Join.others hO (text_Join.stored HI.out BK.out GN.out HB.out GW.out _ _ _).2.1 GN.out); clear HI HB BK hA hb hO hz0 hz1 hz2 hf0 hf1 hf2; have HI := n0_; have HB := n1_; have BK := n2_; clear n0_ n1_ n2_; have hz0 := (blk_cell BK.out 0).trans (rfl : _ = some (Value.string _)); have hz1 := (blk_cell BK.out 1).trans (rfl : _ = some (Value.bool _)); have hf0 := blk_frozen BK.out 0; have hf1 := blk_frozen BK.out 1) | (go_at_call 53; refine (text_bare.calls k1 ((rd_T45 l0 x6).f0) false _ AQ.out).mono ?_; rintro e w5 ⟨rfl, hb⟩; have n0_ := Aside0.mk (text_Join.below HI.out hb); have n1_ := Aside0.mk (below_step HB.out hb); have n2_ := Aside0.mk (blk_below BK.out hb); clear HI HB BK hb; (try clear hz0); (try clear hz1); (try clear hz2); (try clear hf0); (try clear hf1); (try clear hf2); have HI := n0_; have HB := n1_; have BK := n2_; clear n0_ n1_ n2_; have hz0 := (blk_cell BK.out 0).trans (rfl : _ = some (Value.string _)); have hz1 := (blk_cell BK.out 1).trans (rfl : _ = some (Value.bool _)); have hf0 := blk_frozen BK.out 0; have hf1 := blk_frozen BK.out 1))
                    go_ret3
                    exact ⟨by first | rfl | (simp; done), by repeat (first | (with_reducible first | exact HB.out | apply below_alloc | apply pw_below_drewN | apply below_drew1) | exact HB.out)⟩
                  · have c8b0 : decide (0 < x6) = false := decide_eq_false c8
                    clear c8
                    go_wp2_with (first | ((with_reducible refine gate_dst (N := 7) rfl ?_); refine box_event ?hg (N := 7) ?hd (cs := #[.string ⟨#[]⟩, .bool false, .int .i64 0]) (t := 45) ?hr ?_; (case hd => rfl); (case hg => rfl); (case hr => first | (go_simp; done) | (go_simp; rfl)); intro gw hgw w2 hbox hb; have n0_ := Aside0.mk (text_Join.below HI.out hb); have n1_ := Aside0.mk (below_step HB.out hb); have n2_ := Aside0.mk hbox; have n3_ := Aside0.mk (show w.heap.size ≤ gw by rw [hgw]; exact below_size HB.out); have n4_ := Aside0.mk (show gw ≠ gb by have h_ := text_Join.lt HI.out; omega); clear HI HB hbox hb hgw; have HI := n0_; have HB := n1_; have BK := n2_; have GW := n3_; have GN := n4_; clear n0_ n1_ n2_ n3_ n4_; have hz0 : w2.cell? ⟨gw, 0, none⟩ = some (.string ⟨#[]⟩) := (blk_cell BK.out 0).trans rfl; have hz1 : w2.cell? ⟨gw, 1, none⟩ = some (.bool false) := (blk_cell BK.out 1).trans rfl; have hz2 : w2.cell? ⟨gw, 2, none⟩ = some (.int .i64 0) := (blk_cell BK.out 2).trans rfl; have hf0 := blk_frozen BK.out 0; have hf1 := blk_frozen BK.out 1; have hf2 := blk_frozen BK.out 2) | (go_at_call 53; refine (text_bare.calls k1 ((rd_T45 l0 x6).f0) false _ AQ.out).mono ?_; rintro e w5 ⟨rfl, hb⟩; have n0_ := Aside0.mk (text_Join.below (text_Join.stored HI.out BK.out GN.out HB.out GW.out _ _ _).1 hb); have n1_ := Aside0.mk (below_step (text_Join.stored HI.out BK.out GN.out HB.out GW.out _ _ _).2.2 hb); have n2_ := Aside0.mk (blk_below (text_Join.stored HI.out BK.out GN.out HB.out GW.out _ _ _).2.1 hb); clear HI HB BK hb; (try clear hz0); (try clear hz1); (try clear hz2); (try clear hf0); (try clear hf1); (try clear hf2); have HI := n0_; have HB := n1_; have BK := n2_; clear n0_ n1_ n2_; have hz0 := (blk_cell BK.out 0).trans (rfl : _ = some (Value.string _)); have hz1 := (blk_cell BK.out 1).trans (rfl : _ = some (Value.bool _)); have hf0 := blk_frozen BK.out 0; have hf1 := blk_frozen BK.out 1))
                    go_ret3
                    exact ⟨by first | rfl | (simp; done), by repeat (first | (with_reducible first | exact HB.out | apply below_alloc | apply pw_below_drewN | apply below_drew1) | exact HB.out)⟩
            · rw [if_neg c5] at H
              exact absurd H (by simp)
          · rw [if_neg c4] at H
            exact absurd H (by simp)
        · rw [if_neg c3] at H
          have c3b0 : decide (x6 < (l0.length : Int)) = false := decide_eq_false c3
          clear c3
          by_cases c9 : (bs.length : Int) > 4096
          · rw [if_pos c9] at H
            have c9b0 : decide (4096 < (bs.length : Int)) = true := decide_eq_true c9
            clear c9
            simp only [Option.some.injEq, Prod.mk.injEq] at H
            obtain ⟨rfl, rfl, rfl⟩ := H
            go_wp2_with (first | (go_at_call 54; refine (Tryd.Builder_Len_f w.heap.size gb (Lib.byteCells bs) _ HI.out).mono ?_; rintro e w5 ⟨rfl, rfl⟩; (try rw [Lib.byteCells_length])))
            go_ret3
            exact ⟨by first | rfl | (simp; done), by repeat (first | (with_reducible first | exact HB.out | apply below_alloc | apply pw_below_drewN | apply below_drew1) | exact HB.out)⟩
          · rw [if_neg c9] at H
            have c9b0 : decide (4096 < (bs.length : Int)) = false := decide_eq_false c9
            clear c9
            simp only [Option.some.injEq, Prod.mk.injEq] at H
            obtain ⟨rfl, rfl, rfl⟩ := H
            go_wp2_with (first | (go_at_call 54; refine (Tryd.Builder_Len_f w.heap.size gb (Lib.byteCells bs) _ HI.out).mono ?_; rintro e w5 ⟨rfl, rfl⟩; (try rw [Lib.byteCells_length])) | (go_at_call 55; refine (Tryd.Builder_String_any_f w.heap.size gb bs _ HI.out (below_size HB.out)).mono ?_; rintro e w6 ⟨rfl, hA, hb⟩; have n1_ := Aside0.mk (show Below w.heap.size w w6 from Below.trans HB.out hb); clear HI HB hA hb; have HB := n1_; clear n1_))
            go_ret3
            exact ⟨by first | rfl | (simp; done), by repeat (first | (with_reducible first | exact HB.out | apply below_alloc | apply pw_below_drewN | apply below_drew1) | exact HB.out)⟩

end Go.Proofs.YtplhcnlpfoiieaaDoor.P
