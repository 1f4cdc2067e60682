/- Runs of functions on abstract values, 2. -/
import Derived.Test.YtdjdbjcapenjeaaDx1
/- append, and stores. -/
namespace Go.Proofs.Ytdjdbjcapenjeaa.Dx
open Go Go.RowKit
set_option linter.unusedVariables false
set_option linter.unusedSimpArgs false
section
variable {B : Base} {H : List HObj} {w : World} {I : Nat → Option Obj} {ρ : Nat → Place} {P : Program} {C : Ctx}

theorem setCell_heap {g o : Nat} {cur : Array Value} {e : TypeId} {fz : Nat × Nat} (h : w.heap[g]? = some (.cells cur e fz)) (v : Value) : (w.setCell ⟨g, o, none⟩ v).heap[g]? = some (.cells (cur.setIfInBounds o v) e fz) := by
  simp [World.setCell, Array.getElem?_modify, h]
theorem setCell_moved (g o : Nat) (v : Value) : Moved w (w.setCell ⟨g, o, none⟩ v) (some g) :=
  ⟨rfl, rfl, rfl, by simp [World.setCell], fun k _ hk => Below.heap_setCell _ _ _ _ (fun e => hk (by rw [e]))⟩

theorem setCells_heap {g : Nat} {e : TypeId} {fz : Nat × Nat} : ∀ (vs : List Value) (o : Nat) (w : World) (cur : Array Value), w.heap[g]? = some (.cells cur e fz) → o + vs.length ≤ cur.size →
    (w.setCells g o vs).heap[g]? = some (.cells (cur.toList.take o ++ vs ++ cur.toList.drop (o + vs.length)).toArray e fz) ∧ Moved w (w.setCells g o vs) (some g)
  | [], o, w, cur, h, _ => ⟨by simpa [World.setCells] using h, Moved.refl _ _⟩
  | v :: r, o, w, cur, h, hl => by
    simp only [List.length_cons] at hl
    obtain ⟨h1, h2⟩ := setCells_heap r (o + 1) (w.setCell ⟨g, o, none⟩ v) _ (setCell_heap h v) (by simp; omega)
    rw [World.setCells]
    refine ⟨?_, (setCell_moved g o v).trans h2⟩
    rw [h1]
    congr 2
    have := foldl_put (v :: r) 0 o cur (by simpa using hl)
    have h3 := foldl_put r 0 (o + 1) (cur.setIfInBounds o v) (by simp; omega)
    have hk : o < cur.toList.length := by rw [Array.length_toList]; omega
    congr 1
    rw [Array.toList_setIfInBounds]
    have t1 : (cur.toList.set o v).take (o + 1) = cur.toList.take o ++ [v] := by
      rw [List.take_add_one, List.take_set_of_le (Nat.le_refl _), List.getElem?_set_self hk]
      rfl
    have t2 : (cur.toList.set o v).drop (o + 1 + r.length) = cur.toList.drop (o + (v :: r).length) := by
      rw [List.drop_set_of_lt (by omega)]
      congr 1
      simp only [List.length_cons]; omega
    rw [t1, t2]
    simp

theorem zeroCells_length (z : Array Value) (n : Nat) : (Builtin.zeroCells z n).toList.length = n * z.size := by simp [Builtin.zeroCells]

theorem zero_cells_size (hT : TabOK C P) {e : TypeId} {τ : Ty} (hl : lay C e τ = true) (hz : hasZero C e = true) : ∃ i f z, seek C.ti e = some i ∧ P.info? e = some f ∧ f.size = τ.size ∧ f.bytes = i.bytes ∧ f.zero = some z ∧ z.cells.size = τ.size := by
  obtain ⟨j, hj, ha, hs⟩ := lay_spec hl
  unfold hasZero at hz
  split at hz
  · rename_i σ hσ
    obtain ⟨i, f, cs, hi, hinfo, hfs, hfb, hzc, hfz⟩ := zeroOf_spec hT hσ (default : World)
    rw [hj] at hi
    cases hi
    -- the zero's own kind need not be the row's; its cells are as many
    refine ⟨j, f, _, hj, hinfo, by omega, hfb, hfz, ?_⟩
    obtain ⟨f', hf', _, _, hz'⟩ := hT.info e j hj
    rw [hinfo] at hf'
    cases hf'
    have hcl := flat_length σ _ cs (zcells_flat (I := fun _ => none) (ρ := fun _ => .none) σ cs hzc)
    have hv := val_zero (I := fun _ => none) (ρ := fun _ => .none) σ cs hzc
    have := val_size hv
    rw [this]
    exact (sizeZ hT hσ hj).symm.trans hs
  · cases hz
where
  sizeZ (hT : TabOK C P) {e : TypeId} {σ : Ty} {j : TI} (hσ : zeroOf C e = some σ) (hj : seek C.ti e = some j) : j.size = σ.size := by
    have := hT.zsize e j hj σ
    unfold zeroOf at hσ
    rw [hj] at hσ
    exact this hσ

/-- An appended row that had to move. -/
theorem append_grow (hT : TabOK C P) (hinv : Inv B I ρ H w) {t tx e : TypeId} (hd : descT C t = .slice e) {τ : Ty} (hsz : τ.size ≠ 0) (hl : lay C e τ = true) (hz : hasZero C e = true) {x : Value} {ys : List τ.D} {news : List Value}
    (hs : Src P τ.size tx x ys.length news w) (hf : Flats (Flat I ρ τ) ys news) {xs : List τ.D} {olds : List Value} (hxf : Flats (Flat I ρ τ) xs olds) {base : Option Addr} {sCap : Nat}
    (hold : ∀ w', w'.heap = w.heap → (Builtin.firstCells τ.size xs.length (.slice base xs.length sCap)).run P w' = .ok olds.toArray w') (hg : sCap < xs.length + ys.length) (hr : xs.length + ys.length ≤ roomOf (bytesT C e)) (ty : TypeId) :
    ∃ c spare w', (Builtin.append_ #[t, tx] ty #[.slice base xs.length sCap, x]).run P w = .ok (.slice (some ⟨w.heap.size, 0, none⟩) (xs.length + ys.length) c) w' ∧ Moved w w' none ∧ w.heap.size < w'.heap.size ∧
      w'.heap[w.heap.size]? = some (.cells ((olds ++ news) ++ spare).toArray e (0, 0)) ∧ ((olds ++ news) ++ spare).length = c * τ.size ∧ xs.length + ys.length ≤ c := by
  obtain ⟨i, f, z, hi, hinfo, hfs, hfb, hfz, hzs⟩ := zero_cells_size hT hl hz
  have hu : P.underlying t = some (.slice e) := by
    obtain ⟨k, hk, hkd⟩ := descT_spec hd (by simp)
    rw [hT.desc t k hk, hkd]
  rw [bytesT_spec hT hi] at hr
  have hpos : 0 < xs.length + ys.length := by omega
  have hb : 0 < i.bytes := by
    rcases Nat.eq_zero_or_pos i.bytes with h | h
    · rw [h] at hr; unfold roomOf at hr; rw [Nat.div_zero] at hr; omega
    · exact h
  have hroom := roomOf_le hr hb
  have hn : xs.length + ys.length ≤ 70368744177664 := Nat.le_trans hr (by unfold roomOf; exact Nat.div_le_self _ _)
  rw [← hfs] at hs hold
  have hrun := run_append_grow_src (P := P) w t tx ty e f z hu hinfo hfz base xs.length sCap olds (hold _ rfl) x ys.length news hs hg (by omega) (growslice_fits hg (by rw [hfb]; omega))
  refine ⟨_, (Builtin.zeroCells z.cells (grownCap w (xs.length + ys.length) sCap e - (xs.length + ys.length))).toList, _, hrun, ?_, by simp, ?_, ?_, grownCap_ge _ _ _ _⟩
  · exact (Moved.drewN w 1 none).trans (Moved.alloc _ _ _)
  · rw [show w.heap.size = w.drew.heap.size from rfl, alloc_new]
    congr 2
    apply Array.ext'
    simp
  · have h1 := flats_length (fun x vs h => flat_length τ x vs h) xs olds hxf
    have h2 := flats_length (fun x vs h => flat_length τ x vs h) ys news hf
    have h3 := grownCap_ge w (xs.length + ys.length) sCap e
    rw [List.length_append, List.length_append, zeroCells_length, hzs, h1, h2, ← Nat.add_mul, ← Nat.add_mul]
    congr 1
    omega

theorem append_nil_ok (hT : TabOK C P) (hinv : Inv B I ρ H w) {id : Nat} (hid : ρ id = .none) {t tx e : TypeId} (hd : descT C t = .slice e) {τ : Ty} (hsz : τ.size ≠ 0) (hl : lay C e τ = true) (hz : hasZero C e = true) {x : AV} {v : Value} (hx : AVRel I ρ x v) {ys : List τ.D} (hm : moreD H τ x = some ys)
    (hk : kindOK C tx x = true) (hc : AllP (moreC H x)) (hr : ys.length ≤ roomOf (bytesT C e)) (ty : TypeId) :
    NewOK P I ρ id w (Builtin.append_ #[t, tx] ty #[.slice none 0 0, v]) (fun id => .v .ref (.sl id 0 ys.length)) (.row τ ys e) := by
  obtain ⟨news, hs, hf⟩ := more_src hT hinv (e := e) hsz hx hm hk hc
  by_cases h0 : ys.length = 0
  · have hys : ys = [] := List.eq_nil_of_length_eq_zero h0
    subst hys
    have hnews : news = [] := hf
    subst hnews
    have hu : P.underlying t = some (.slice e) := by
      obtain ⟨k, hk, hkd⟩ := descT_spec hd (by simp)
      rw [hT.desc t k hk, hkd]
    obtain ⟨i, f, z, hi, hinfo, hfs, hfb, hfz, hzs⟩ := zero_cells_size hT hl hz
    rw [← hfs] at hs
    have hrun : (Builtin.append_ #[t, tx] ty #[.slice none 0 0, v]).run P w = .ok (.slice none 0 0) w := by
      have hl := hs.len
      have hcl := hs.cells
      simp only [List.length_nil] at hl hcl
      rcases hs.kind with ⟨e', hk⟩ | hk <;> simp [Builtin.append_, run_underlying hu, run_underlying hk, Go.sizeOf, typeInfo, hinfo, hl, hcl]
    exact ⟨_, w, .nil, hrun, by simp, Moved.refl _ _, fun g c s h => by (cases h), .inl ⟨upd_same _ _ _, rfl⟩, ref_mk (by simp [RefRel, upd_same])⟩
  · have hold : ∀ w', w'.heap = w.heap → (Builtin.firstCells τ.size ([] : List τ.D).length (.slice none ([] : List τ.D).length 0)).run P w' = .ok ([] : List Value).toArray w' := fun w' _ => run_firstCells_none w' τ.size 0 0 0
    obtain ⟨c, spare, w', h1, h2, h3, h4, h5, h6⟩ := append_grow hT hinv hd hsz hl hz hs hf (xs := []) (olds := []) rfl hold (by simp; omega) (by simpa using hr) ty
    simp only [List.length_nil, Nat.zero_add, List.nil_append] at h1 h4 h5 h6
    refine ⟨_, w', .blk w.heap.size c τ.size, h1, by simp, h2, fun g c s h => ?_, .inr ⟨w.heap.size, c, news, spare, upd_same _ _ _, h4, h5, h6, flats_keep (Sub.refl I) (agree_id hid _) hf⟩, ref_mk ?_⟩
    · cases h; exact ⟨Nat.le_refl _, h3⟩
    · simp only [RefRel, upd_same]
      exact ⟨⟨w.heap.size, 0, none⟩, by omega, rfl, rfl, rfl, fun _ => by simp⟩

theorem append_own_ok (hT : TabOK C P) (hinv : Inv B I ρ H w) {t tx e : TypeId} (hd : descT C t = .slice e) {τ : Ty} (hsz : τ.size ≠ 0) (hrf : τ.refs = false) (hl : lay C e τ = true) (hz : hasZero C e = true) {b len : Nat} {xs : List τ.D} (hb : H[b]? = some (.row τ xs e)) {s : Value} (hsr : RefRel ρ (.sl b 0 len) s)
    {x : AV} {v : Value} (hx : AVRel I ρ x v) {ys : List τ.D} (hm : moreD H τ x = some ys) (hk : kindOK C tx x = true) (hc : AllP (moreC H x)) (hlen : len ≤ xs.length) (hr : len + ys.length ≤ roomOf (bytesT C e)) (ty : TypeId) :
    ∃ u w' ρ', (Builtin.append_ #[t, tx] ty #[s, v]).run P w = .ok u w' ∧ (∀ j, j ≠ b → ρ' j = ρ j) ∧ RefRel ρ' (.sl b 0 (len + ys.length)) u ∧
      Inv B I ρ' ((H.map (HObj.kill (Nat.beq b))).set b (.row τ (xs.take len ++ ys) e)) w' := by
  obtain ⟨news, hs, hf⟩ := more_src hT hinv (e := e) hsz hx hm hk hc
  have hlive : (HObj.row τ xs e).live = true := rfl
  have hkb : (H.map (HObj.kill (Nat.beq b)))[b]? = some (.row τ xs e) := by
    rw [List.getElem?_map, hb, Option.map_some]
    congr 1
    simp [HObj.kill, hrf]
  have hu : P.underlying t = some (.slice e) := by
    obtain ⟨k, hk, hkd⟩ := descT_spec hd (by simp)
    rw [hT.desc t k hk, hkd]
  have htl : (xs.take len).length = len := by rw [List.length_take]; omega
  have keepF : ∀ {ρ' : Nat → Place} {zs : List τ.D} {us : List Value}, Flats (Flat I ρ τ) zs us → Flats (Flat I ρ' τ) zs us := fun h =>
    flats_imp _ _ (fun z _ us hu => flat_mono (Sub.refl I) τ z us (names_norefs τ z hrf) hu) h
  -- the row moves
  have grow : ∀ (base : Option Addr) (sCap : Nat) (olds : List Value), Flats (Flat I ρ τ) (xs.take len) olds → (∀ w' : World, w'.heap = w.heap → (Builtin.firstCells τ.size len (.slice base len sCap)).run P w' = .ok olds.toArray w') → sCap < len + ys.length →
      ∃ u w' ρ', (Builtin.append_ #[t, tx] ty #[.slice base len sCap, v]).run P w = .ok u w' ∧ (∀ j, j ≠ b → ρ' j = ρ j) ∧ RefRel ρ' (.sl b 0 (len + ys.length)) u ∧
        Inv B I ρ' ((H.map (HObj.kill (Nat.beq b))).set b (.row τ (xs.take len ++ ys) e)) w' := by
    intro base sCap olds h1 h2 h3
    obtain ⟨c, spare, w', g1, g2, g3, g4, g5, g6⟩ := append_grow hT hinv hd hsz hl hz hs hf (xs := xs.take len) (olds := olds) h1 (base := base) (sCap := sCap) (by rw [htl]; exact h2) (by rw [htl]; exact h3) (by rw [htl]; exact hr) ty
    rw [htl] at g1 g6
    refine ⟨_, w', upd ρ b (.blk w.heap.size c τ.size), g1, fun j hj => upd_ne _ _ hj, ?_, ?_⟩
    · simp only [RefRel, upd_same]
      exact ⟨⟨w.heap.size, 0, none⟩, by omega, rfl, rfl, rfl, fun _ => by simp⟩
    · refine hinv.move hb hlive g2 (by simp) (fun g c s h => by cases h; exact ⟨Nat.le_refl _, g3⟩) (.inr ⟨w.heap.size, c, olds ++ news, spare, upd_same _ _ _, g4, g5, ?_, ?_⟩)
      · rw [List.length_append, htl]; exact g6
      · exact keepF (flats_app h1 hf)
  simp only [RefRel] at hsr
  rcases hinv.own b _ hb with ⟨h1, rfl⟩ | ⟨g, c, us, spare, h1, h2, h3, h4, h5⟩
  · rw [h1] at hsr
    obtain ⟨_, rfl, rfl⟩ := hsr
    by_cases h0 : ys.length = 0
    · have hys : ys = [] := List.eq_nil_of_length_eq_zero h0
      subst hys
      have hnews : news = [] := hf
      subst hnews
      obtain ⟨i, f, z, hi, hinfo, hfs, hfb, hfz, hzs⟩ := zero_cells_size hT hl hz
      rw [← hfs] at hs
      have hrun : (Builtin.append_ #[t, tx] ty #[.slice none 0 0, v]).run P w = .ok (.slice none 0 0) w := by
        have hl := hs.len
        have hcl := hs.cells
        simp only [List.length_nil] at hl hcl
        rcases hs.kind with ⟨e', hk⟩ | hk <;> simp [Builtin.append_, run_underlying hu, run_underlying hk, Go.sizeOf, typeInfo, hinfo, hl, hcl]
      refine ⟨_, w, ρ, hrun, fun _ _ => rfl, by simp [RefRel, h1], ?_⟩
      have := hinv.strike (Nat.beq b)
      rw [show (H.map (HObj.kill (Nat.beq b))).set b (.row τ (([] : List τ.D).take 0 ++ []) e) = H.map (HObj.kill (Nat.beq b)) from set_same (by simpa using hkb)]
      exact this
    · exact grow none 0 [] (by simp [Flats]) (fun w' _ => run_firstCells_none w' τ.size 0 0 0) (by omega)
  · rw [h1] at hsr
    obtain ⟨a, h6, rfl, h7, h8, h9⟩ := hsr
    rw [Nat.zero_add] at h6
    obtain ⟨u1, u2, rfl, k1, k2, k3⟩ := flats_split (fun x vs h => flat_length τ x vs h) len xs us h5
    have hu1 := k3 hlen
    have hul := flats_length (fun x vs h => flat_length τ x vs h) xs _ h5
    have hnl := flats_length (fun x vs h => flat_length τ x vs h) ys news hf
    rw [Nat.sub_zero]
    by_cases hroom : len + ys.length ≤ c
    · -- there is room
      obtain ⟨i, f, z, hi, hinfo, hfs, hfb, hfz, hzs⟩ := zero_cells_size hT hl hz
      have haddr : a = ⟨g, a.off, none⟩ := by cases a; simp_all
      have hoff : news ≠ [] → a.off = 0 := fun hne => by
        have : 0 < ys.length := by
          rcases Nat.eq_zero_or_pos ys.length with h | h
          · rw [h] at hnl; simp at hnl; exact absurd hnl hne
          · exact h
        have := h9 (by omega)
        simpa using this
      have hcellsz : (u1 ++ u2 ++ spare).toArray.size = c * τ.size := by simpa using h3
      have hfit : len * τ.size + news.length ≤ c * τ.size := by
        rw [hnl, ← Nat.add_mul]
        exact Nat.mul_le_mul_right _ hroom
      have hrun := run_append_room_src (P := P) w t tx ty e f hu hinfo g a.off len c v ys.length news (by rw [hfs]; exact hs) hroom
        (fun j hj => by
          have h0 := hoff (fun e => by rw [e] at hj; simp at hj)
          rw [cell_at h2, h0, hfs, Array.getElem?_eq_getElem (by rw [hcellsz]; omega)]
          rfl)
        (fun j hj => frozen_at h2 _ rfl)
      rw [← haddr, hfs] at hrun
      have hset : ∃ spare', (w.setCells g (a.off + len * τ.size) news).heap[g]? = some (.cells ((u1 ++ news) ++ spare').toArray e (0, 0)) ∧ ((u1 ++ news) ++ spare').length = c * τ.size ∧ Moved w (w.setCells g (a.off + len * τ.size) news) (some g) := by
        by_cases hne : news = []
        · subst hne
          exact ⟨u2 ++ spare, by simpa [World.setCells, List.append_assoc] using h2, by simpa [List.append_assoc] using h3, Moved.refl _ _⟩
        · rw [hoff hne, Nat.zero_add]
          obtain ⟨s1, s2⟩ := setCells_heap news (len * τ.size) w _ h2 (by rw [hcellsz]; exact hfit)
          refine ⟨(u1 ++ u2 ++ spare).drop (len * τ.size + news.length), ?_, ?_, s2⟩
          · rw [s1]
            congr 2
            rw [← hu1]
            simp [List.append_assoc]
          · have h3' : (u1 ++ u2 ++ spare).length = c * τ.size := h3
            rw [List.length_append, List.length_append, List.length_drop, h3', hu1]
            omega
      obtain ⟨spare', s1, s2, s3⟩ := hset
      refine ⟨_, _, ρ, hrun, fun _ _ => rfl, ?_, ?_⟩
      · simp only [RefRel, h1]
        exact ⟨a, by omega, by rw [Nat.sub_zero], h7, h8, h9⟩
      · refine (hinv.strike (Nat.beq b)).write hkb hlive h1 s3 (.inr ⟨g, c, u1 ++ news, spare', h1, s1, s2, ?_, flats_app k1 hf⟩)
        rw [List.length_append, htl]; exact hroom
    · refine grow (some a) c u1 k1 (fun w' hw' => ?_) (by omega)
      refine run_firstCells_some w' τ.size len a len c u1 hu1 (fun j u hj => ?_)
      have hlt : 0 < c := by
        rcases Nat.eq_zero_or_pos c with h | h
        · have : len = 0 := by omega
          subst this
          simp at hu1
          subst hu1
          simp at hj
        · exact h
      subst h7
      exact cells_at (w := w') (pre := []) (us := u1) (post := u2 ++ spare) (by rw [hw']; exact h2) h8 (by simp [List.append_assoc]) (by simpa using (h9 hlt).symm) j u hj
where
  flats_app {τ : Ty} {xs ys : List τ.D} {us vs : List Value} (h : Flats (Flat I ρ τ) xs us) (k : Flats (Flat I ρ τ) ys vs) : Flats (Flat I ρ τ) (xs ++ ys) (us ++ vs) := by
    induction xs generalizing us with
    | nil => simp only [Flats] at h; subst h; exact k
    | cons x xs ih =>
      obtain ⟨u, v, rfl, h1, h2⟩ := h
      exact ⟨u, v ++ vs, by simp [List.append_assoc], h1, ih h2⟩
  set_same {l : List HObj} {b : Nat} {o : HObj} (h : l[b]? = some o) : l.set b o = l := by
    apply List.ext_getElem?
    intro i
    rw [List.getElem?_set]
    split
    · rename_i e
      subst e
      rw [h]
      have := (List.getElem?_eq_some_iff.1 h).1
      simp [this]
    · rfl
end
end Go.Proofs.Ytdjdbjcapenjeaa.Dx

/- Stores, conversions; and all operations together. -/
namespace Go.Proofs.Ytdjdbjcapenjeaa.Dx
open Go Go.RowKit
set_option linter.unusedVariables false
set_option linter.unusedSimpArgs false
section
variable {B : Base} {H : List HObj} {w : World} {I : Nat → Option Obj} {ρ : Nat → Place} {P : Program} {C : Ctx}

/-- A segment of a block is written over. -/
theorem run_store_seg (hT : TabOK C P) {t : TypeId} {σ : Ty} {z : σ.D} {v : Value} (hv : Val I ρ σ z v) (hl : lay C t σ = true) {g o : Nat} {e : TypeId} {pre mid post : List Value} (h : w.heap[g]? = some (.cells (pre ++ mid ++ post).toArray e (0, 0))) (ho : pre.length = o) (hm : mid.length = v.cells.toList.length) :
    ∃ w', (Instr.storeAt t (.pointer (some ⟨g, o, none⟩)) v).run P w = .ok () w' ∧ Moved w w' (some g) ∧ w'.heap[g]? = some (.cells (pre ++ v.cells.toList ++ post).toArray e (0, 0)) := by
  obtain ⟨i, hi, ha, hs⟩ := lay_spec hl
  have hsz := hT.sizeOf hi w
  have hvs := val_size hv
  have hone := flat_one σ z _ (val_cells hv)
  have hst := run_storeCells_cells (P := P) g o v.cells.toList 0 w (fun j hj => by
    rw [cell_at h, Nat.add_zero, Array.getElem?_eq_getElem (by simp; omega)]
    rfl) (fun j hj => frozen_at h _ rfl) hone
  simp only [Nat.add_zero] at hst
  obtain ⟨s1, s2⟩ := setCells_heap v.cells.toList o w _ h (by simp only [List.size_toArray, List.length_append]; omega)
  refine ⟨_, ?_, s2, ?_⟩
  · have : v.cells.size = i.size := by omega
    simp [Instr.storeAt, Instr.sureAddr, storeVar, hsz, this, hst]
  · rw [s1]
    congr 2
    rw [List.append_assoc pre, List.take_left' ho, ← List.append_assoc pre, List.drop_left' (by rw [List.length_append]; omega)]

theorem store_ok (hT : TabOK C P) (hinv : Inv B I ρ H w) {t : TypeId} {b : Nat} {p : List PE} {vx : Value} (hx : AVRel I ρ (.v .ref (.ptr b p)) vx) {σ : Ty} {z : σ.D} {v : Value} (hv : Val I ρ σ z v) {o o' : HObj} (hb : H[b]? = some o) (hl : lay C t σ = true)
    (hc : AllP (setH p σ z o).1) (hs : (setH p σ z o).2 = some o') : ∃ w', (Instr.storeAt t vx v).run P w = .ok () w' ∧ Inv B I ρ (H.set b o') w' ∧ o'.live = true := by
  obtain ⟨g, c, s, h1, rfl⟩ := ref_of hx
  have hms := val_cells hv
  cases o with
  | dead => simp [setH] at hs
  | map κ τ es => simp [setH] at hs
  | var τ x e =>
    simp only [setH] at hs hc
    cases hq : setP p τ x σ z with
    | mk c' r =>
      rw [hq] at hs hc
      cases r with
      | none => simp at hs
      | some sv =>
        obtain ⟨τ', x'⟩ := sv
        simp only at hs hc
        cases hs
        obtain ⟨g', c'', s', us, k1, k2, k3⟩ := hinv.own b _ hb
        rw [h1] at k1
        cases k1
        obtain ⟨⟨pre, mid, post, rfl, l1, l2, l3⟩, _⟩ := setP_flat p τ x us σ z _ k3 hms (by rw [hq]; exact hc) τ' x' (by rw [hq])
        obtain ⟨w', r1, r2, r3⟩ := run_store_seg hT hv hl k2 l1 l2
        exact ⟨w', r1, hinv.write hb rfl h1 r2 ⟨g, c, s, _, h1, r3, l3⟩, rfl⟩
  | row τ xs e =>
    cases p with
    | nil => simp [setH] at hs
    | cons q r =>
      cases q with
      | fld k off => simp [setH] at hs
      | idx i sz =>
        simp only [setH] at hs hc
        cases hbq : Nat.beq sz τ.size with
        | false => rw [hbq] at hs; simp at hs
        | true =>
          rw [hbq] at hs hc
          simp only [cond_true] at hs hc
          have hsz := Nat.eq_of_beq_eq_true hbq
          cases hq : setP r τ (xs.getD i τ.dflt) σ z with
          | mk c' ro =>
            rw [hq] at hs hc
            cases ro with
            | none => simp at hs
            | some sv =>
              obtain ⟨t', z'⟩ := sv
              simp only at hs hc
              split at hs
              · rename_i ht
                subst ht
                simp only [dif_pos] at hc
                cases hs
                rcases hinv.own b _ hb with ⟨k1, rfl⟩ | ⟨g', c'', us, spare, k1, k2, k3, k4, k5⟩
                · rw [h1] at k1; cases k1
                · rw [h1] at k1
                  cases k1
                  obtain ⟨pre, mid, post, rfl, m1, m2⟩ := flats_get (fun x vs h => flat_length t' x vs h) t'.dflt xs us i k5 hc.1
                  obtain ⟨⟨pre', mid', post', rfl, l1, l2, l3⟩, _⟩ := setP_flat r t' _ mid σ z _ m2 hms (by rw [hq]; exact hc.2) t' z' (by rw [hq])
                  obtain ⟨pre2, mid2, post2, he, n1, n2, n3⟩ := flats_set (fun x vs h => flat_length t' x vs h) z' _ l3 xs _ i k5 hc.1
                  have e1 : pre2 = pre := by
                    have := congrArg (List.take (i * t'.size)) he
                    rw [List.append_assoc, List.take_left' (by omega), List.append_assoc, List.take_left' n1] at this
                    exact this.symm
                  subst e1
                  have he' : (pre' ++ mid' ++ post') ++ post = mid2 ++ post2 := by
                    rw [List.append_assoc pre2, List.append_assoc pre2] at he
                    exact List.append_cancel_left he
                  have hlen : mid2.length = (pre' ++ mid' ++ post').length := by rw [n2]; exact (flat_length t' _ _ m2).symm
                  obtain ⟨rfl, rfl⟩ := List.append_inj he'.symm hlen
                  have k2' : w.heap[g]? = some (.cells ((pre2 ++ pre') ++ mid' ++ (post' ++ post2 ++ spare)).toArray e (0, 0)) := by
                    rw [k2]; congr 2; simp [List.append_assoc]
                  obtain ⟨w', r1, r2, r3⟩ := run_store_seg hT hv hl k2' (o := offs (.idx i sz :: r)) (by rw [List.length_append, n1, l1, hsz]; rfl) l2
                  refine ⟨w', r1, hinv.write hb rfl h1 r2 (.inr ⟨g, c, pre2 ++ (pre' ++ v.cells.toList ++ post') ++ post2, spare, h1, ?_, ?_, by rw [List.length_set]; exact k4, n3⟩), rfl⟩
                  · rw [r3]; congr 2; simp [List.append_assoc]
                  · rw [← k3]
                    simp only [List.length_append]
                    omega
              · cases hs

/-- A block that stays as it is from now on. -/
theorem Inv.freeze_new (hinv : Inv B I ρ H w) {w' : World} (hm : Moved w w' none) {g : Nat} {ob : Obj} (hg : w.heap.size ≤ g) (hh : w'.heap[g]? = some ob) : Inv B (fun k => if k = g then some ob else I k) ρ H w' ∧ Sub I (fun k => if k = g then some ob else I k) := by
  have hfar := hinv.moved_far hm (fun _ e => by cases e) (fun _ e => by cases e)
  have hIg : I g = none := by
    cases he : I g with
    | none => rfl
    | some o => exact absurd (hinv.ilt he) (by omega)
  have hsub : Sub I (fun k => if k = g then some ob else I k) := fun k o hk => by
    have : k ≠ g := fun e => by rw [e, hIg] at hk; cases hk
    simp [this, hk]
  refine ⟨⟨fun k o hk => ?_, fun k o hk => ?_, hfar.2, fun i o hi => ?_, fun i o hi hl g' c s hb => ?_, hinv.inj, hinv.fresh, hm.os.trans hinv.os, hm.tape.trans hinv.tape, hm.output.trans hinv.output, Nat.le_trans hinv.size hm.size⟩, hsub⟩
  · by_cases hkg : k = g
    · subst hkg; simp at hk; rw [hh, hk]
    · simp only [hkg, if_false] at hk; exact hfar.1 k o hk
  · by_cases hkg : k = g
    · subst hkg
      cases he : B.Z k with
      | none => rfl
      | some o => exact absurd (hinv.zlt he) (by omega)
    · simp only [hkg, if_false] at hk; exact hinv.dis k o hk
  · cases hl : o.live with
    | false => cases o <;> first | trivial | (simp [HObj.live] at hl)
    | true => exact hRel_keep hsub (Agree.refl ρ) rfl (fun g' c s hb => hm.far g' (hinv.sep i o hi hl g' c s hb).2.2 (by simp)) (hinv.own i o hi)
  · obtain ⟨h1, h2, h3⟩ := hinv.sep i o hi hl g' c s hb
    refine ⟨?_, h2, Nat.lt_of_lt_of_le h3 hm.size⟩
    have : g' ≠ g := by omega
    simp [this, h1]

def sbCells (s : ByteArray) (cap : Nat) : Array Value := (s.data.map fun (b : UInt8) => Value.int .u8 (b.toNat : Int)) ++ Array.replicate (cap - s.size) (Value.int .u8 0)
theorem stringToBytes_ok (hinv : Inv B I ρ H w) (s : ByteArray) (e : TypeId) : ∃ v w' J, (Conv.stringToBytes e s).run P w = .ok v w' ∧ Sub I J ∧ Inv B J ρ H w' ∧ Val J ρ (.sl (.int .u8)) (bytesOf s) v := by
  have hcap : s.size ≤ (Question.appendCap s.size 0 e).cut (w.tape w.drawn (.appendCap s.size 0 e)) := by simp [Question.cut]
  generalize hc : (Question.appendCap s.size 0 e).cut (w.tape w.drawn (.appendCap s.size 0 e)) = cap at hcap
  have hrun : (Conv.stringToBytes e s).run P w = .ok (.slice (some ⟨w.heap.size, 0, none⟩) s.size cap)
      ((w.drew.alloc (.cells (sbCells s cap) e)).freeze ⟨w.heap.size, (sbCells s cap).size, none⟩ 1) := by
    have hsh : (w.drew.alloc (.cells (sbCells s cap) e)).shape? w.heap.size = some (e, (sbCells s cap).size) := by
      simp only [World.shape?]
      rw [show w.heap.size = w.drew.heap.size from rfl, alloc_new]
    simp only [Conv.stringToBytes, Sem.run_bind, run_choose, Question.forced, Bool.false_eq_true, if_false, hc, Result.andThen_ok, newRow, run_newObj, Sem.run_pure, markStringish, run_shape, World.drew_eq, World.alloc_eq]
    rw [show ((s.data.map fun (b : UInt8) => Value.int .u8 (b.toNat : Int)) ++ Array.replicate (cap - s.size) (Value.int .u8 0)) = sbCells s cap from rfl]
    rw [show w.drew.heap.size = w.heap.size from rfl, hsh]
    simp only [run_freeze, Result.andThen_ok, Sem.run_pure]
  have hfr : ∀ (W : World) (g n : Nat) (cs : Array Value) (el : TypeId), W.heap[g]? = some (.cells cs el (0, 0)) → (W.freeze ⟨g, n, none⟩ 1).heap[g]? = some (.cells cs el (n, n + 1)) := by
    intro W g n cs el h
    simp [World.freeze, Array.getElem?_modify, h]
  have hfm : ∀ (W : World) (g n : Nat), W.heap.size ≤ g + 1 → Moved W (W.freeze ⟨g, n, none⟩ 1) (some g) := by
    intro W g n _
    refine ⟨rfl, rfl, rfl, by simp [World.freeze], fun k hk hne => ?_⟩
    have : g ≠ k := fun e => hne (by rw [e])
    simp [World.freeze, Array.getElem?_modify, this]
  have h1 := hfr (w.drew.alloc (.cells (sbCells s cap) e)) w.heap.size (sbCells s cap).size _ e (by rw [show w.heap.size = w.drew.heap.size from rfl, alloc_new])
  have hm : Moved w ((w.drew.alloc (.cells (sbCells s cap) e)).freeze ⟨w.heap.size, (sbCells s cap).size, none⟩ 1) none := by
    have a1 : Moved w (w.drew.alloc (.cells (sbCells s cap) e)) none := (Moved.drewN w 1 none).trans (Moved.alloc _ _ _)
    have a2 := hfm (w.drew.alloc (.cells (sbCells s cap) e)) w.heap.size (sbCells s cap).size (by simp)
    exact ⟨a2.os.trans a1.os, a2.tape.trans a1.tape, a2.output.trans a1.output, Nat.le_trans a1.size a2.size, fun k hk _ => (a2.far k (Nat.lt_of_lt_of_le hk a1.size) (by simp; omega)).trans (a1.far k hk (by simp))⟩
  obtain ⟨h2, h3⟩ := hinv.freeze_new hm (Nat.le_refl _) h1
  refine ⟨_, _, _, hrun, h3, h2, val_mk rfl ⟨rfl, _, cap, by rw [bytesOf_length], by rw [bytesOf_length]; exact hcap, .inr ⟨_, byteCells s, rfl, rfl, ⟨_, e, _, [], List.replicate (cap - s.size) (.int .u8 0), if_pos rfl, ?_, rfl⟩, flats_bytes s⟩⟩⟩
  simp [byteCells, sbCells]
end
end Go.Proofs.Ytdjdbjcapenjeaa.Dx

/- Every operation does in the model what it does on abstract values. -/
namespace Go.Proofs.Ytdjdbjcapenjeaa.Dx
open Go Go.RowKit
set_option linter.unusedVariables false
set_option linter.unusedSimpArgs false
section
variable {B : Base} {H : List HObj} {w : World} {I : Nat → Option Obj} {ρ : Nat → Place} {P : Program} {C : Ctx}

def AVs (I : Nat → Option Obj) (ρ : Nat → Place) : List AV → List Value → Prop
  | [], vs => vs = []
  | x :: r, vs => ∃ v vs', vs = v :: vs' ∧ AVRel I ρ x v ∧ AVs I ρ r vs'
theorem avs_map {rv : Operand → Value} {ev : Operand → AV} (hev : ∀ x, AVRel I ρ (ev x) (rv x)) : ∀ l : List Operand, AVs I ρ (l.map ev) (l.map rv)
  | [] => rfl
  | x :: r => ⟨rv x, r.map rv, rfl, hev x, avs_map hev r⟩
theorem avs_app {xs ys : List AV} {us vs : List Value} (h : AVs I ρ xs us) (k : AVs I ρ ys vs) : AVs I ρ (xs ++ ys) (us ++ vs) := by
  induction xs generalizing us with
  | nil => simp only [AVs] at h; subst h; exact k
  | cons x xs ih =>
    obtain ⟨v, vs', rfl, h1, h2⟩ := h
    exact ⟨v, vs' ++ vs, rfl, h1, ih h2⟩

def EffOK (P : Program) (B : Base) (I : Nat → Option Obj) (ρ : Nat → Place) (H : List HObj) (w : World) (sem : Sem Next) : Eff → Prop
  | .val p => AllP p.1 → ∃ v, sem.run P w = .ok (.value v) w ∧ AVRel I ρ p.2 v
  | .imm c x => AllP c → ∃ v w' J, sem.run P w = .ok (.value v) w' ∧ Sub I J ∧ Inv B J ρ H w' ∧ AVRel J ρ x v
  | .new c v ob => AllP c → ∀ id, ρ id = .none → ∃ x w' pl, sem.run P w = .ok (.value x) w' ∧ pl ≠ .none ∧ Moved w w' none ∧ (∀ g c s, pl = .blk g c s → w.heap.size ≤ g ∧ g < w'.heap.size) ∧ HRel I (upd ρ id pl) w' id ob ∧ AVRel I (upd ρ id pl) (v id) x
  | .set c b o => AllP c → ∃ w', sem.run P w = .ok .skip w' ∧ Inv B I ρ (H.set b o) w' ∧ ∃ o', H[b]? = some o' ∧ o.isRow = o'.isRow
  | .app c b o n => AllP c → ∃ u w' ρ', sem.run P w = .ok (.value u) w' ∧ (∀ j, j ≠ b → ρ' j = ρ j) ∧ RefRel ρ' (.sl b 0 n) u ∧ Inv B I ρ' ((H.map (HObj.kill (Nat.beq b))).set b o) w' ∧ ∃ τ xs t, H[b]? = some (.row τ xs t) ∧ o.isRow = true
  | .call f args => ∃ vals : Array Value, sem.run P w = .ok (.enter f vals) w ∧ AVs I ρ args vals.toList
  | .bad => True

theorem val_eff {sem : Sem Value} {p : PV} (h : ValOK P I ρ w sem p) : EffOK P B I ρ H w (do pure (.value (← sem))) (.val p) := fun hc => by
  obtain ⟨v, h1, h2⟩ := h hc
  exact ⟨v, by simp [h1], h2⟩
theorem new_eff {sem : Sem Value} {c : List Prop} {v : Nat → AV} {ob : HObj} (h : AllP c → ∀ id, ρ id = .none → NewOK P I ρ id w sem v ob) : EffOK P B I ρ H w (do pure (.value (← sem))) (.new c v ob) := fun hc id hid => by
  obtain ⟨x, w', pl, h1, h2⟩ := h hc id hid
  exact ⟨x, w', pl, by simp [h1], h2⟩
theorem pv_pure {x : AV} {v : Value} (h : AVRel I ρ x v) : EffOK P B I ρ H w (pure (.value v)) (.val ([], x)) := fun _ => ⟨v, rfl, h⟩

theorem convert_eff (hT : TabOK C P) (hinv : Inv B I ρ H w) {x : AV} {v : Value} (hx : AVRel I ρ x v) (s d : TypeId) : EffOK P B I ρ H w (do pure (.value (← convert s d v))) (convertD C s d x) := by
  unfold convertD
  have hu : ∀ {t : TypeId} {ds : TypeDesc}, descT C t = ds → ds ≠ .invalid → P.underlying t = some ds := fun h h' => by
    obtain ⟨k, hk, hkd⟩ := descT_spec h h'
    rw [hT.desc _ k hk, hkd]
  split
  · exact trivial
  · rename_i hkn
    obtain ⟨is, his⟩ : ∃ i, seek C.ti s = some i := by
      unfold knownT at hkn
      split at hkn
      · rename_i i hi; exact ⟨i, hi⟩
      · cases hkn
    have hus := hT.underlying his w
    split
    · rename_i k k' n hd
      intro _
      cases int_of hx
      have hud := hT.under hd (by simp) w
      exact ⟨.int k (k.wrap n), by simp [convert, hus, hud, Conv.intToInt], val_int.2 rfl⟩
    · rename_i s' hd
      intro _
      cases str_of hx
      have hud := hT.under hd (by simp) w
      exact ⟨.string s', by simp [convert, hus, hud], val_str.2 rfl⟩
    · rename_i xs hd
      split
      · rename_i e hs
        split
        · rename_i he
          intro _
          have hv := bytesToString_ok (P := P) hinv hx
          obtain ⟨_, A, c, e1, _⟩ := sl_of hx
          cases e1
          exact ⟨.string (strOf xs), by simp [run_convert_bytes_string w s d e _ _ _ (hu hs (by simp)) (hu he (by simp)) (hu hd (by simp)), hv], val_str.2 rfl⟩
        · exact trivial
      · exact trivial
    · rename_i hd
      split
      · rename_i e hs
        split
        · rename_i he
          intro _
          cases nl_of hx
          exact ⟨.string ByteArray.empty, by simp [run_convert_bytes_string w s d e _ _ _ (hu hs (by simp)) (hu he (by simp)) (hu hd (by simp)), Conv.bytesToString], val_str.2 rfl⟩
        · exact trivial
      · exact trivial
    · rename_i e s' hd
      split
      · rename_i he
        intro _
        cases str_of hx
        have hud := hT.under hd (by simp) w
        have hue := hT.under he (by simp) w
        obtain ⟨v', w', J, h1, h2, h3, h4⟩ := stringToBytes_ok (P := P) hinv s' e
        exact ⟨v', w', J, by simp [convert, hus, hud, hue, h1], h2, h3, h4⟩
      · exact trivial
    · exact trivial

theorem parts_map {rv : Operand → Value} {ev : Operand → AV} (hev : ∀ x, AVRel I ρ (ev x) (rv x)) : ∀ l : List (Nat × Operand), Parts I ρ (l.map fun p => (p.1, ev p.2)) (l.map fun p => (p.1, rv p.2))
  | [] => rfl
  | p :: r => ⟨rv p.2, r.map fun p => (p.1, rv p.2), rfl, hev p.2, parts_map hev r⟩

theorem optRel_map {rv : Operand → Value} {ev : Operand → AV} (hev : ∀ x, AVRel I ρ (ev x) (rv x)) (o : Option Operand) : OptRel I ρ (o.map ev) (o.map rv) := by
  cases o with
  | none => trivial
  | some x => exact hev x

theorem capRel_avs : ∀ (caps : List Nat) (vs : List Value), CapRel ρ caps vs → AVs I ρ (caps.map fun b => .v .ref (.ptr b [])) vs
  | [], _, h => h
  | b :: r, vs, h => by
    obtain ⟨g, c, s, vs', h1, rfl, h3⟩ := h
    exact ⟨_, vs', rfl, ref_mk ⟨g, c, s, h1, rfl⟩, capRel_avs r vs' h3⟩

theorem avs_one {x : AV} {vs : List Value} (h : AVs I ρ [x] vs) : ∃ v, vs = [v] ∧ AVRel I ρ x v := by
  obtain ⟨v, vs', rfl, h1, h2⟩ := h
  simp only [AVs] at h2
  subst h2
  exact ⟨v, rfl, h1⟩
theorem avs_two {x y : AV} {vs : List Value} (h : AVs I ρ [x, y] vs) : ∃ u v, vs = [u, v] ∧ AVRel I ρ x u ∧ AVRel I ρ y v := by
  obtain ⟨u, vs', rfl, h1, h2⟩ := h
  obtain ⟨v, rfl, h3⟩ := avs_one h2
  exact ⟨u, v, rfl, h1, h3⟩
theorem arr_one {a : Array Value} {v : Value} (h : a.toList = [v]) : a = #[v] := by rw [← Array.toList_inj, h]
theorem arr_two {a : Array Value} {u v : Value} (h : a.toList = [u, v]) : a = #[u, v] := by rw [← Array.toList_inj, h]

theorem call_eff (hT : TabOK C P) (hinv : Inv B I ρ H w) {rv : Operand → Value} {ev : Operand → AV} (hev : ∀ x, AVRel I ρ (ev x) (rv x)) (c : Call) (ty : TypeId) :
    EffOK P B I ρ H w (do let d ← resolve rv c ty; invoke d.target d.args) (callD C ev H c) := by
  have hargs := avs_map hev c.args.toList
  have hal : c.args.toList.map rv = (c.args.map rv).toList := by simp
  rw [hal] at hargs
  unfold callD
  split
  · rename_i hcal
    split
    · rename_i x t hx ht
      rw [hx] at hargs
      obtain ⟨v, h1, h2⟩ := avs_one hargs
      have ha := arr_one h1
      have hty : c.argTypes = #[t] := by rw [← Array.toList_inj, ht]
      have := val_eff (B := B) (H := H) (len_ok (P := P) (w := w) hT h2 t ty)
      simpa [resolve, hcal, ha, invoke, builtin, hty] using this
    · exact trivial
  · rename_i hcal
    split
    · rename_i s x t tx hx ht
      rw [hx] at hargs
      obtain ⟨u, v, h1, h2, h3⟩ := avs_two hargs
      have ha := arr_two h1
      have hty : c.argTypes = #[t, tx] := by rw [← Array.toList_inj, ht]
      have key : EffOK P B I ρ H w (do pure (.value (← Builtin.append_ #[t, tx] ty #[u, v]))) (appendD C H t tx s x) := by
        unfold appendD
        split
        · rename_i e hd
          split
          · rename_i b off len
            split
            · rename_i τ xs t' hb
              split
              · rename_i ys hm
                cases hc : (Nat.beq off 0 && Nat.beq e t' && lay C e τ && !Nat.beq τ.size 0 && !τ.refs && kindOK C tx x && hasZero C e) with
                | false => exact trivial
                | true =>
                  simp only [Bool.and_eq_true] at hc
                  obtain ⟨⟨⟨⟨⟨⟨c1, c2⟩, c3⟩, c4⟩, c5⟩, c6⟩, c7⟩ := hc
                  have c1 := Nat.eq_of_beq_eq_true c1
                  have c2 := Nat.eq_of_beq_eq_true c2
                  subst c1 c2
                  rintro ⟨k1, k2, k3⟩
                  obtain ⟨r, w', ρ', g1, g2, g3, g4⟩ := append_own_ok hT hinv hd (ne0_of c4) (by simpa using c5) c3 c7 hb (ref_of h2) h3 hm c6 k3 k1 k2 ty
                  exact ⟨r, w', ρ', by simp [g1], g2, g3, g4, τ, xs, e, hb, rfl⟩
              · exact trivial
            · exact trivial
          · cases nl_of h2
            split
            · rename_i τ hτ
              split
              · rename_i ys hm
                cases hc : (lay C e τ && !Nat.beq τ.size 0 && !τ.refs && kindOK C tx x && hasZero C e) with
                | false => exact trivial
                | true =>
                  simp only [Bool.and_eq_true] at hc
                  obtain ⟨⟨⟨⟨c3, c4⟩, c5⟩, c6⟩, c7⟩ := hc
                  exact new_eff fun hcc id hid => append_nil_ok hT hinv hid hd (ne0_of c4) c3 c7 h3 hm c6 hcc.2 hcc.1 ty
              · exact trivial
            · exact trivial
          · exact trivial
        · exact trivial
      simpa [resolve, hcal, ha, invoke, builtin, hty] using key
    · exact trivial
  · rename_i hcal
    split
    · rename_i k a k' b hx
      rw [hx] at hargs
      obtain ⟨u, v, h1, h2, h3⟩ := avs_two hargs
      have ha := arr_two h1
      cases int_of h2
      cases int_of h3
      intro _
      refine ⟨.int k (if b > a then b else a), by simp [resolve, hcal, ha, invoke, builtin, Builtin.max_, Builtin.max2], val_int.2 ?_⟩
      by_cases h : b > a <;> simp [h]
    · exact trivial
  · rename_i hcal
    split
    · rename_i k a k' b hx
      rw [hx] at hargs
      obtain ⟨u, v, h1, h2, h3⟩ := avs_two hargs
      have ha := arr_two h1
      cases int_of h2
      cases int_of h3
      intro _
      refine ⟨.int k (if b < a then b else a), by simp [resolve, hcal, ha, invoke, builtin, Builtin.min_, Builtin.min2], val_int.2 ?_⟩
      by_cases h : b < a <;> simp [h]
    · exact trivial
  · rename_i f hcal
    split
    · rename_i g caps hf
      cases hcan : C.can g with
      | false => exact trivial
      | true =>
        have hr := hev f
        rw [hf] at hr
        obtain ⟨vs, h1, h2⟩ := ref_of hr
        have h3 := hT.can g hcan
        show EffOK P B I ρ H w _ (.call g _)
        refine ⟨c.args.map rv ++ vs, ?_, ?_⟩
        · simp [resolve, hcal, h1, Deferred.ofValue, invoke, h3]
        · have := avs_app hargs (capRel_avs caps _ h2)
          simpa using this
    · exact trivial
  · rename_i r name hcal
    split
    · rename_i t hr
      have hrr := hev r
      rw [hr] at hrr
      have htag := tag_of hrr
      split
      · rename_i f hf
        refine ⟨#[.agg #[]] ++ c.args.map rv, ?_, ?_⟩
        · have := hT.meth t name f hf (c.args.map rv) w
          have e1 : ∀ (v : Value) (A : Array Value), (#[v] ++ A)[0]? = some v := fun v A => by simp [Array.getElem?_append]
          have e2 : (c.args.map rv).extract 0 c.args.size = c.args.map rv := by
            have : c.args.size = (c.args.map rv).size := by simp
            rw [this, Array.extract_size]
          simp [resolve, hcal, htag, invoke, e1, e2, this]
        · have h0 : AVs I ρ [AV.v .unit ()] [.agg #[]] := ⟨_, [], rfl, ⟨[], rfl, by simp [Ty.agg]⟩, rfl⟩
          have := avs_app h0 hargs
          simpa using this
      · exact trivial
    · exact trivial
  · exact trivial
end
end Go.Proofs.Ytdjdbjcapenjeaa.Dx

/- Maps whose keys are numbers. -/
namespace Go.Proofs.Ytdjdbjcapenjeaa.Dx
open Go Go.RowKit
set_option linter.unusedVariables false
set_option linter.unusedSimpArgs false
section
variable {B : Base} {H : List HObj} {w : World} {I : Nat → Option Obj} {ρ : Nat → Place} {P : Program} {C : Ctx}

theorem entRel_length {κ τ : Ty} : ∀ (es : List (κ.D × τ.D)) (ms : List MapEntry), EntRel I ρ κ τ es ms → es.length = ms.length
  | [], _, h => by simp only [EntRel] at h; subst h; rfl
  | e :: es, ms, h => by
    obtain ⟨m, ms', rfl, _, _, h3⟩ := h
    simp [entRel_length es ms' h3]

theorem entRel_push {κ τ : Ty} : ∀ (es : List (κ.D × τ.D)) (ms : List MapEntry), EntRel I ρ κ τ es ms → ∀ (x : κ.D) (y : τ.D) (m : MapEntry), Val I ρ κ x m.key → Val I ρ τ y m.val → EntRel I ρ κ τ (es ++ [(x, y)]) (ms ++ [m])
  | [], ms, h, x, y, m, hx, hy => by simp only [EntRel] at h; subst h; exact ⟨m, [], rfl, hx, hy, rfl⟩
  | e :: es, ms, h, x, y, m, hx, hy => by
    obtain ⟨m', ms', rfl, h1, h2, h3⟩ := h
    exact ⟨m', ms' ++ [m], rfl, h1, h2, entRel_push es ms' h3 x y m hx hy⟩

theorem find_ints {q : IntKind} {τ : Ty} (n : Int) (d : τ.D) : ∀ (es : List (Int × τ.D)) (ms : List MapEntry) (i : Nat), EntRel I ρ (.int q) τ es ms →
    (Instr.findNow (.int q) (.int q n) ms i = some none ∧ hasA es n = false ∧ lookA d es n = d ∧ ∀ x, setA es n x = es ++ [(n, x)]) ∨
    ∃ j m, Instr.findNow (.int q) (.int q n) ms i = some (some (i + j, m.val)) ∧ ms[j]? = some m ∧ m.key = .int q n ∧ hasA es n = true ∧ Val I ρ τ (lookA d es n) m.val ∧ j < ms.length ∧
      ∀ x v, Val I ρ τ x v → EntRel I ρ (.int q) τ (setA es n x) (ms.modify j fun e => { e with key := .int q n, val := v })
  | [], ms, i, h => by
    simp only [EntRel] at h; subst h
    exact .inl ⟨rfl, rfl, rfl, fun _ => rfl⟩
  | e :: es, ms, i, h => by
    obtain ⟨m, ms', rfl, hk, hv, hr⟩ := h
    have hk' : m.key = .int q e.1 := val_int.1 hk
    by_cases hne : n = e.1
    · refine .inr ⟨0, m, ?_, rfl, by rw [hk', hne], ?_, ?_, by simp, fun x v hx => ?_⟩
      · simp [Instr.findNow, hk', Instr.sameNow, hne]
      · simp [hasA, hne]
      · simp only [lookA, hne, beq_self_eq_true, cond_true]; exact hv
      · simp only [setA, hne, beq_self_eq_true, cond_true, List.modify_zero_cons]
        exact ⟨_, ms', rfl, val_int.2 rfl, hx, hr⟩
    · have hb : (n == e.1) = false := by simpa using hne
      have hnow : Instr.findNow (.int q) (.int q n) (m :: ms') i = Instr.findNow (.int q) (.int q n) ms' (i + 1) := by
        simp only [Instr.findNow, hk', Instr.sameNow, if_true, hb]
      rcases find_ints n d es ms' (i + 1) hr with ⟨h1, h2, h3, h4⟩ | ⟨j, m', h1, h2, h3, h4, h5, h6, h7⟩
      · refine .inl ⟨by rw [hnow, h1], ?_, ?_, fun x => ?_⟩
        · simp only [hasA, hb, cond_false, h2]
        · simp only [lookA, hb, cond_false, h3]
        · simp only [setA, hb, cond_false, h4 x, List.cons_append]
      · refine .inr ⟨j + 1, m', by rw [hnow, h1, show i + 1 + j = i + (j + 1) by omega], by simpa using h2, h3, ?_, ?_, by simp only [List.length_cons]; omega, fun x v hx => ?_⟩
        · simp only [hasA, hb, cond_false, h4]
        · simp only [lookA, hb, cond_false]; exact h5
        · simp only [setA, hb, cond_false, List.modify_succ_cons]
          exact ⟨m, _, rfl, hk, hv, h7 x v hx⟩

theorem checkKey_int (hT : TabOK C P) {k : TypeId} {q : IntKind} (hd : descT C k = .int q) (em : Bool) (n : Int) (w : World) : (Instr.checkKey em 10000 k (.int q n)).run P w = .ok () w := by
  have hu := hT.under hd (by simp) w
  have h : ∀ m, (Instr.checkKey em (m + 1) k (.int q n)).run P w = .ok () w := fun m => by
    simp only [Instr.checkKey, Sem.run_bind, hu, Result.andThen_ok]
    rfl
  exact h 9999

theorem makeMap_ok (hT : TabOK C P) {id : Nat} (hid : ρ id = .none) {t k e : TypeId} {q : IntKind} {τ : Ty} (hd : descT C t = .map k e) (r : Option Value) (hr : ∀ v, r = some v → ∃ j n, v = .int j n) :
    NewOK P I ρ id w (Instr.makeMap t r) (fun id => .v .ref (.mp id)) (.map (.int q) τ []) := by
  have hu := hT.under hd (by simp) w
  have hrun : (Instr.makeMap t r).run P w = .ok (.map (some w.heap.size)) (w.alloc (.map #[] 0)) := by
    unfold Instr.makeMap
    cases r with
    | none => simp [World.alloc_eq]
    | some v =>
      obtain ⟨j, n, rfl⟩ := hr v rfl
      simp [hu, asInt, asIntOf, World.alloc_eq]
  refine ⟨_, _, .blk w.heap.size 0 0, hrun, by simp, Moved.alloc _ _ _, fun g c s h => ?_, ?_, ref_mk ⟨w.heap.size, 0, 0, upd_same _ _ _, rfl⟩⟩
  · cases h; exact ⟨Nat.le_refl _, by simp⟩
  · exact ⟨w.heap.size, 0, 0, #[], 0, upd_same _ _ _, alloc_new _ _, rfl, by simp, by simp⟩

theorem map_at (hinv : Inv B I ρ H w) {b : Nat} {κ τ : Ty} {es : List (κ.D × τ.D)} (hb : H[b]? = some (.map κ τ es)) {v : Value} (hv : AVRel I ρ (.v .ref (.mp b)) v) :
    ∃ g c s ms clock, ρ b = .blk g c s ∧ v = .map (some g) ∧ w.heap[g]? = some (.map ms clock) ∧ EntRel I ρ κ τ es ms.toList ∧ (∀ m ∈ ms.toList, m.born < clock) ∧ (ms.toList.map (·.born)).Nodup := by
  obtain ⟨g, c, s, ms, clock, h1, h2, h3, h4, h5⟩ := hinv.own b _ hb
  obtain ⟨g', c', s', k1, k2⟩ := ref_of hv
  rw [h1] at k1
  cases k1
  exact ⟨g, c, s, ms, clock, h1, k2, h2, h3, h4, h5⟩

theorem find_run (hT : TabOK C P) {k : TypeId} {q : IntKind} (hd : descT C k = .int q) (n : Int) {ms : List MapEntry} {r : Option (Nat × Value)} (h : Instr.findNow (.int q) (.int q n) ms 0 = some r) (w : World) : (Instr.findKey k (.int q n) ms).run P w = .ok r w := by
  have hu := hT.under hd (by simp) w
  simp only [Instr.findKey, Sem.run_bind, hu, Result.andThen_ok, h, Sem.run_pure]

theorem lookup_eff (hT : TabOK C P) (hinv : Inv B I ρ H w) {x i : AV} {vx vi : Value} (hx : AVRel I ρ x vx) (hi : AVRel I ρ i vi) (t : TypeId) (ok : Bool) :
    EffOK P B I ρ H w (do pure (.value (← Instr.lookup t vx vi ok))) (lookupD C H t x i ok) := by
  unfold lookupD
  split
  · rename_i k e b q n hd
    split
    · rename_i q' τ es q'' τ' hb hdk hz
      cases hq : (q == q' && q == q'') with
      | false => exact trivial
      | true =>
        rw [Bool.and_eq_true, beq_iff_eq, beq_iff_eq] at hq
        obtain ⟨rfl, rfl⟩ := hq
        rw [cond_true]
        split
        · rename_i hτ
          subst hτ
          have hu := hT.under hd (by simp) w
          obtain ⟨g, c, s, ms, clock, _, rfl, hg, hent, _⟩ := map_at hinv hb hx
          cases int_of hi
          obtain ⟨i', f', cs, _, hinfo, _, _, hzc, hfz⟩ := zeroOf_spec hT hz w
          have hzero : (zeroValue e).run P w = .ok (if τ'.agg then .agg cs.toArray else cs.headD undef) w := by
            simp [zeroValue, typeInfo, hinfo, hfz]
          have hzv : Val I ρ τ' τ'.dflt (if τ'.agg then .agg cs.toArray else cs.headD undef) := val_zero τ' cs hzc
          have hget : (getObj g).run P w = .ok (.map ms clock) w := by simp [getObj, Sem.run, hg]
          have hrun : ∃ v, (Instr.lookup t (.map (some g)) (.int q n) ok).run P w = .ok (if ok then .tuple #[v, .bool (hasA es n)] else v) w ∧ Val I ρ τ' (lookA τ'.dflt es n) v := by
            rcases find_ints n τ'.dflt es ms.toList 0 hent with ⟨h1, h2, h3, _⟩ | ⟨j, m, h1, _, _, h4, h5, _⟩
            · refine ⟨(if τ'.agg then .agg cs.toArray else cs.headD undef), ?_, by rw [h3]; exact hzv⟩
              simp only [Instr.lookup, Sem.run_bind, hu, Result.andThen_ok, hget, Sem.run_pure, checkKey_int hT hdk, find_run hT hdk n h1, hzero, h2]
            · refine ⟨m.val, ?_, h5⟩
              simp only [Instr.lookup, Sem.run_bind, hu, Result.andThen_ok, hget, Sem.run_pure, checkKey_int hT hdk, find_run hT hdk n h1, h4]
          obtain ⟨v, h1, h2⟩ := hrun
          cases ok with
          | false => exact fun _ => ⟨v, by simp [h1], h2⟩
          | true => exact fun _ => ⟨.tuple #[v, .bool (hasA es n)], by simp [h1], #[v, .bool (hasA es n)], rfl, v, _, rfl, h2, _, _, rfl, val_bool.2 rfl, rfl⟩
        · exact trivial
    · exact trivial
  · exact trivial

theorem update_eff (hT : TabOK C P) (hinv : Inv B I ρ H w) {x i y : AV} {vx vi vy : Value} (hx : AVRel I ρ x vx) (hi : AVRel I ρ i vi) (hy : AVRel I ρ y vy) (t : TypeId) {sem : Sem Next} (hsem : ∀ w', (Instr.mapUpdate t vx vi vy).run P w = .ok () w' → sem.run P w = .ok .skip w') :
    EffOK P B I ρ H w sem (mapUpdateD C H t x i y) := by
  unfold mapUpdateD
  split
  · rename_i k e b q n σ z hd
    split
    · rename_i q' τ es q'' hb hdk
      cases hq : (q == q' && q == q'') with
      | false => exact trivial
      | true =>
        rw [Bool.and_eq_true, beq_iff_eq, beq_iff_eq] at hq
        obtain ⟨rfl, rfl⟩ := hq
        rw [cond_true]
        split
        · rename_i hτ
          subst hτ
          have hu := hT.under hd (by simp) w
          obtain ⟨g, c, s, ms, clock, hρ, rfl, hg, hent, hborn, hnd⟩ := map_at hinv hb hx
          cases int_of hi
          have hget : (getObj g).run P w = .ok (.map ms clock) w := by simp [getObj, Sem.run, hg]
          have hlive : (HObj.map (.int q) σ es).live = true := rfl
          have fin : ∀ (ms' : Array MapEntry) (clock' : Nat), (Instr.mapUpdate t (.map (some g)) (.int q n) vy).run P w = .ok () { w with heap := w.heap.setIfInBounds g (.map ms' clock') } →
              EntRel I ρ (.int q) σ (setA es n z) ms'.toList → (∀ m ∈ ms'.toList, m.born < clock') → (ms'.toList.map (·.born)).Nodup →
              AllP [] → ∃ w', sem.run P w = .ok .skip w' ∧ Inv B I ρ (H.set b (.map (.int q) σ (setA es n z))) w' ∧ ∃ o', H[b]? = some o' ∧ (HObj.map (.int q) σ (setA es n z)).isRow = o'.isRow := by
            intro ms' clock' hrun he hbn hn _
            have hlt := lt_of_heap hg
            refine ⟨_, hsem _ hrun, hinv.write hb hlive hρ ⟨rfl, rfl, rfl, by simp, fun k hk hne => ?_⟩ ⟨g, c, s, ms', clock', hρ, by simp [hlt], he, hbn, hn⟩, _, hb, rfl⟩
            have : g ≠ k := fun e => hne (by rw [e])
            simp [Array.getElem?_setIfInBounds, this]
          rcases find_ints n z es ms.toList 0 hent with ⟨h1, _, _, h4⟩ | ⟨j, m, h1, h2, h3, _, _, h6, h7⟩
          · refine fin (ms.push { key := .int q n, val := vy, born := clock }) (clock + 1) ?_ ?_ ?_ ?_
            · simp only [Instr.mapUpdate, Sem.run_bind, hu, Result.andThen_ok, hget, checkKey_int hT hdk, find_run hT hdk n h1]
              simp [setObj, Sem.run, hg]
            · rw [h4 z, Array.toList_push]
              exact entRel_push es ms.toList hent _ _ _ (val_int.2 rfl) hy
            · intro m hm
              rw [Array.toList_push, List.mem_append, List.mem_singleton] at hm
              rcases hm with hm | rfl
              · exact Nat.lt_succ_of_lt (hborn m hm)
              · exact Nat.lt_succ_self _
            · rw [Array.toList_push, List.map_append, List.nodup_append]
              refine ⟨hnd, by simp, fun a ha b hb e => ?_⟩
              obtain ⟨m, hm, rfl⟩ := List.mem_map.1 ha
              simp at hb
              have := hborn m hm
              omega
          · refine fin (ms.modify j fun e => { e with key := .int q n, val := vy }) clock ?_ ?_ ?_ ?_
            · have hj : ms[j]? = some m := by rw [← Array.getElem?_toList]; exact h2
              have hst : (Instr.keyThatStays (.int q n) (.int q n)).run P w = .ok (.int q n) w := by
                simp [Instr.keyThatStays, Instr.sameBits]
              simp only [Instr.mapUpdate, Sem.run_bind, hu, Result.andThen_ok, hget, checkKey_int hT hdk, find_run hT hdk n h1, Nat.zero_add, hj, Option.map_some, Option.getD_some, h3, hst]
              simp [setObj, Sem.run, hg]
            · rw [Array.toList_modify]; exact h7 z vy hy
            · intro m' hm'
              rw [Array.toList_modify] at hm'
              obtain ⟨a, ha⟩ := List.getElem?_of_mem hm'
              rw [List.getElem?_modify] at ha
              obtain ⟨m0, h0, h0'⟩ := Option.map_eq_some_iff.1 ha
              have := hborn m0 (List.mem_of_getElem? h0)
              split at h0' <;> (subst h0'; exact this)
            · have : (ms.modify j fun e => { e with key := .int q n, val := vy }).toList.map (·.born) = ms.toList.map (·.born) := by
                rw [Array.toList_modify]
                apply List.ext_getElem?
                intro a
                simp only [List.getElem?_map, List.getElem?_modify]
                cases ms.toList[a]? with
                | none => rfl
                | some m0 => by_cases hja : j = a <;> simp [hja]
              rw [this]; exact hnd
        · exact trivial
    · exact trivial
  · exact trivial
end
end Go.Proofs.Ytdjdbjcapenjeaa.Dx

/- Every operation does in the model what it does on abstract values: all of them. -/
namespace Go.Proofs.Ytdjdbjcapenjeaa.Dx
open Go Go.RowKit
set_option linter.unusedVariables false
set_option linter.unusedSimpArgs false
section
variable {B : Base} {H : List HObj} {w : World} {I : Nat → Option Obj} {ρ : Nat → Place} {P : Program} {C : Ctx}

theorem setH_isRow {p : List PE} {σ : Ty} {z : σ.D} {o o' : HObj} {c : List Prop} (h : setH p σ z o = (c, some o')) : o'.isRow = o.isRow := by
  cases o with
  | dead => simp [setH] at h
  | map κ τ es => simp [setH] at h
  | var τ x t =>
    simp only [setH] at h
    split at h
    · cases h; rfl
    · cases h
  | row τ xs t =>
    cases p with
    | nil => simp [setH] at h
    | cons q r =>
      cases q with
      | fld k off => simp [setH] at h
      | idx i s =>
        simp only [setH] at h
        cases hb : Nat.beq s τ.size with
        | false => rw [hb] at h; cases h
        | true =>
          rw [hb] at h
          simp only [cond_true] at h
          split at h
          · split at h
            · cases h; rfl
            · cases h
          · cases h

theorem caps_rel {rv : Operand → Value} {ev : Operand → AV} (hev : ∀ x, AVRel I ρ (ev x) (rv x)) : ∀ (l : List Operand) (bs : List Nat), (l.map ev).mapM capOf = some bs → CapRel ρ bs (l.map rv)
  | [], bs, h => by cases h; rfl
  | x :: r, bs, h => by
    rw [List.map_cons, List.mapM_cons] at h
    cases hx : capOf (ev x) with
    | none => rw [hx] at h; cases h
    | some b =>
      rw [hx] at h
      cases hr : (r.map ev).mapM capOf with
      | none => simp only [hr] at h; cases h
      | some l =>
        simp only [hr] at h
        cases h
        unfold capOf at hx
        split at hx
        · rename_i b' he
          cases hx
          have := hev x
          rw [he] at this
          obtain ⟨g, c, s, h1, h2⟩ := ref_of this
          exact ⟨g, c, s, r.map rv, h1, by rw [List.map_cons, h2]; rfl, caps_rel hev r l hr⟩
        · cases hx

theorem op_eff (hT : TabOK C P) (hinv : Inv B I ρ H w) {rv : Operand → Value} {ev : Operand → AV} (hev : ∀ x, AVRel I ρ (ev x) (rv x)) (o : Oper) : EffOK P B I ρ H w (execOp rv o) (opEff C ev H o.op) := by
  obtain ⟨dst, op, type, pos, after, guard⟩ := o
  cases op
  case move x => exact pv_pure (hev x)
  case assign x => exact pv_pure (hev x)
  case pick c a b =>
    intro hc
    obtain ⟨v, h1, h2⟩ := pick_ok (P := P) (w := w) (hev c) (hev a) (hev b) hc
    refine ⟨v, ?_, h2⟩
    simp only [execOp, Sem.run_bind, Sem.run_pure] at h1 ⊢
    cases hr : (asBool (rv c)).run P w with
    | ok q w' =>
      rw [hr] at h1
      simp only [Result.andThen_ok, Result.ok.injEq] at h1 ⊢
      exact ⟨by rw [h1.1], h1.2⟩
    | halt q w' => rw [hr] at h1; cases h1
  case alloc e =>
    simp only [opEff, execOp]
    split
    · rename_i τ h; exact new_eff fun _ id hid => alloc_ok hT hid h
    · exact trivial
  case box e x =>
    simp only [opEff, execOp]
    split
    · rename_i τ y h
      have hx := hev x
      rw [h] at hx
      exact new_eff fun _ id hid => box_ok hid hx e
    · exact trivial
  case build t ps =>
    simp only [opEff, execOp]
    split
    · rename_i z fs hz hd
      have hp := parts_map hev ps.toList
      have e1 : (ps.map fun p => (p.1, rv p.2)).toList = ps.toList.map fun p => (p.1, rv p.2) := by simp
      rw [← e1] at hp
      unfold buildD
      cases hc : (fieldsOK C z 0 fs.toList && apartD (ps.toList.map fun p => (p.1, ev p.2)) && (ps.toList.map fun p => (p.1, ev p.2)).all fun p => Nat.blt p.1 z.count) with
      | false => exact trivial
      | true =>
        rw [cond_true]
        split
        · rename_i τ x hb
          intro _
          obtain ⟨v, h1, h2⟩ := build_ok (P := P) (w := w) hT hz hd hp hc hb
          exact ⟨v, by simp [h1], h2⟩
        · exact trivial
    · exact trivial
  case buildSlice t n ps =>
    simp only [opEff, execOp]
    split
    · rename_i e hd
      have hp := parts_map hev ps.toList
      have e1 : (ps.map fun p => (p.1, rv p.2)).toList = ps.toList.map fun p => (p.1, rv p.2) := by simp
      rw [← e1] at hp
      unfold buildSliceD
      split
      · rename_i i τ x r hl
        rw [hl] at hp
        split
        · rename_i l hb
          cases hc : (Nat.beq n ((i, AV.v τ x) :: r).length && lay C e τ && Nat.ble (n * τ.size) 16777216 && !Nat.beq τ.size 0 && (match zeroOf C e with | some _ => true | none => false)) with
          | false => exact trivial
          | true => exact new_eff fun _ id hid => buildSlice_ok hT hid hd hp hb hc
        · exact trivial
      · exact trivial
    · exact trivial
  case load t x => exact val_eff (load_ok hT hinv (hev x) t)
  case store t x y =>
    simp only [opEff, execOp]
    split
    · rename_i b p σ z hx hy
      have h1 := hev x
      have h2 := hev y
      rw [hx] at h1
      rw [hy] at h2
      split
      · rename_i o hb
        cases hq : setH p σ z o with
        | mk c r =>
          cases r with
          | none => exact trivial
          | some o' =>
            show EffOK P B I ρ H w _ (cond (lay C t σ) (.set c b o') .bad)
            cases hl : lay C t σ with
            | false => exact trivial
            | true =>
              intro hc
              obtain ⟨w', r1, r2, _⟩ := store_ok hT hinv h1 h2 hb hl (by rw [hq]; exact hc) (by rw [hq])
              exact ⟨w', by simp [r1], r2, o, hb, setH_isRow hq⟩
      · exact trivial
    · exact trivial
  case nilCheck x =>
    have h1 := hev x
    show EffOK P B I ρ H w _ (match ev x with | .v .ref (.ptr b p) => .val ([], .v .ref (.ptr b p)) | .v (.ptr τ) y => .val ([], .v (.ptr τ) y) | _ => .bad)
    cases hx : ev x with
    | tup l => exact trivial
    | dead => exact trivial
    | v τ y =>
      rw [hx] at h1
      cases τ with
      | ref =>
        cases y with
        | ptr b p =>
          obtain ⟨g, c, s, h2, h3⟩ := ref_of h1
          rw [h3] at h1
          simp only [execOp, h3]
          exact pv_pure h1
        | _ => exact trivial
      | ptr σ =>
        obtain ⟨_, a, us, h3, _⟩ := ptr_of h1
        rw [h3] at h1
        simp only [execOp, h3]
        exact pv_pure h1
      | _ => exact trivial
  case binOp op xt x y yt => exact val_eff (bin_ok hT (hev x) (hev y) op xt x y)
  case unOp op t x =>
    simp only [execOp]
    have h1 := hev x
    cases op <;> simp only [opEff]
    all_goals first
      | exact trivial
      | (split
         · rename_i hx
           rw [hx] at h1
           intro _
           have h2 := bool_of h1
           rw [h2]
           first | exact ⟨_, by simp [Op.unary]; rfl, val_bool.2 rfl⟩ | exact ⟨_, by simp [Op.unary], val_bool.2 rfl⟩
         · exact trivial)
      | (split
         · rename_i hx
           rw [hx] at h1
           intro _
           have h2 := int_of h1
           rw [h2]
           first
             | exact ⟨_, by simp [Op.unary, Op.intArith]; rfl, val_int.2 (by simp)⟩
             | exact ⟨_, by simp [Op.unary, Op.intBits]; rfl, val_int.2 rfl⟩
             | exact ⟨_, by simp [Op.unary, Op.intBits], val_int.2 rfl⟩
         · exact trivial)
  case convert s d x => exact convert_eff hT hinv (hev x) s d
  case makeInterface t x =>
    simp only [opEff, execOp]
    cases hkn : knownC C t with
    | false => exact trivial
    | true =>
      obtain ⟨i, hi, hni⟩ := knownC_spec hkn
      have hu := hT.underlying hi w
      have hrun : ∀ v, (Instr.makeInterface t v).run P w = .ok (.iface t v) w := fun v => by
        simp only [Instr.makeInterface, Sem.run_bind, hu, Result.andThen_ok]
        cases hd : i.desc <;> first | rfl | exact absurd hd (hni _)
      rw [cond_true]
      split
      · rename_i u hx
        have h1 := hev x
        rw [hx] at h1
        have h2 := unit_of h1
        intro _
        exact ⟨.iface t (rv x), by simp [hrun], val_mk rfl (by simp [Flat, h2])⟩
      · rename_i u hx
        have h1 := hev x
        rw [hx] at h1
        have h2 : rv x = .agg #[] := by
          obtain ⟨us, h3, h4⟩ := h1
          obtain ⟨a, b, rfl, ha, hb⟩ := h3
          simp only [Flat] at ha hb
          subst ha hb
          simpa [Ty.agg] using h4
        intro _
        exact ⟨.iface t (rv x), by simp [hrun], val_mk rfl (by simp [Flat, h2])⟩
      · rename_i τ y _ _ hx
        have h1 := hev x
        rw [hx] at h1
        intro _
        obtain ⟨us, h3, h4⟩ := h1
        exact ⟨.iface t (rv x), by simp [hrun], val_mk rfl ⟨rv x, us, rfl, h3, h4⟩⟩
      · exact trivial
  case makeFunc fn first caps =>
    cases fn <;> simp only [opEff, execOp]
    case func f =>
      cases hf : Nat.beq first.size 0 with
      | false => exact trivial
      | true =>
        rw [cond_true]
        split
        · rename_i l hl
          intro _
          have h1 := caps_rel hev caps.toList l hl
          have hz : first = #[] := Array.eq_empty_of_size_eq_zero (Nat.eq_of_beq_eq_true hf)
          subst hz
          exact ⟨_, rfl, ref_mk ⟨caps.map rv, by simp, by simpa using h1⟩⟩
        · exact trivial
    all_goals exact trivial
  case makeSlice t l c =>
    simp only [opEff, execOp]
    split
    · rename_i e n m hd hl hc
      split
      · rename_i τ hz
        cases hlay : lay C e τ with
        | false => exact trivial
        | true =>
          obtain ⟨kl, h1⟩ := intD_of hl (hev l)
          obtain ⟨kc, h2⟩ := intD_of hc (hev c)
          rw [h1, h2]
          refine new_eff fun hcc id hid => ?_
          obtain ⟨rfl, h3, h4, _⟩ := hcc
          exact make_ok hT hid hd hz hlay h3 h4 kl kc
      · exact trivial
    · exact trivial
  case slice t x lo hi mx =>
    cases mx with
    | some _ => exact trivial
    | none => exact val_eff (slice_ok hT hinv (hev x) (optRel_map hev lo) (optRel_map hev hi) t)
  case fieldAddr s x f => exact val_eff (fieldAddr_ok hT w (hev x) s f)
  case field s x f => exact val_eff (field_ok hT (hev x) s f)
  case indexAddr t x i => exact val_eff (indexAddr_ok hT hinv (hev x) (hev i) t)
  case index t x i => exact val_eff (index_ok hT (hev x) (hev i) t)
  case typeAssert x xt t ok =>
    cases ok with
    | false => exact trivial
    | true =>
      simp only [opEff, execOp]
      split
      · rename_i u hx
        have h1 := hev x
        rw [hx] at h1
        have h2 := tag_of h1
        split
        · rename_i hz
          cases hkn : knownC C t with
          | false => exact trivial
          | true =>
            obtain ⟨i, hi, hni⟩ := knownC_spec hkn
            have hu := hT.underlying hi w
            obtain ⟨i', f', cs, _, hinfo, _, _, hzc, hfz⟩ := zeroOf_spec hT hz w
            cases hzc
            simp [Ty.agg] at hfz
            intro _
            refine ⟨.tuple #[.agg #[], .bool (Nat.beq u t)], ?_, ⟨_, rfl, _, _, rfl, ⟨[], rfl, by simp [Ty.agg]⟩, _, _, rfl, val_bool.2 rfl, rfl⟩⟩
            rw [h2]
            have hb : Nat.beq u t = decide (u = t) := by
              by_cases e : u = t
              · subst e; simp
              · rw [decide_eq_false e]
                cases hbb : Nat.beq u t with
                | false => rfl
                | true => exact absurd (Nat.eq_of_beq_eq_true hbb) e
            rw [hb]
            have hd : ∀ ms, i.desc ≠ .interface ms := hni
            by_cases e : u = t
            · subst e
              simp only [Instr.typeAssert, Sem.run_bind, hu, Result.andThen_ok]
              cases hdd : i.desc <;> first | exact absurd hdd (hd _) | simp
            · simp only [Instr.typeAssert, Sem.run_bind, hu, Result.andThen_ok]
              cases hdd : i.desc <;> first | exact absurd hdd (hd _) | simp [e, zeroValue, typeInfo, hinfo, hfz]
        · exact trivial
      · exact trivial
  case extract x k =>
    simp only [opEff, execOp]
    split
    · rename_i l hx
      have h1 := hev x
      rw [hx] at h1
      split
      · rename_i s hs
        intro _
        obtain ⟨u, h2, h3⟩ := extract_ok (P := P) (w := w) h1 hs
        exact ⟨u, by simp [h2], h3⟩
      · exact trivial
    · exact trivial
  case call c => exact call_eff hT hinv hev c type
  case makeMap t r =>
    simp only [opEff, execOp]
    unfold makeMapD
    split
    · rename_i k e hd
      split
      · rename_i q τ hdk hz
        split
        · rename_i hr
          have hr' : r = none := by cases r <;> simp_all
          subst hr'
          exact new_eff fun _ id hid => makeMap_ok hT hid hd none (fun v h => by cases h)
        · rename_i j n hr
          obtain ⟨y, rfl, hy⟩ := Option.map_eq_some_iff.1 hr
          have h1 := hev y
          rw [hy] at h1
          exact new_eff fun _ id hid => makeMap_ok hT hid hd (some (rv y)) (fun v h => by cases h; exact ⟨j, n, int_of h1⟩)
        · exact trivial
      · exact trivial
    · exact trivial
  case lookup t x i ok => exact lookup_eff hT hinv (hev x) (hev i) t ok
  case mapUpdate t x i y => exact update_eff hT hinv (hev x) (hev i) (hev y) t fun w' h => by simp [execOp, h]
  all_goals exact trivial
end
end Go.Proofs.Ytdjdbjcapenjeaa.Dx

/- Other names for blocks; a call into a part of the heap. -/
namespace Go.Proofs.Ytdjdbjcapenjeaa.Dx
open Go Go.RowKit
set_option linter.unusedVariables false
set_option linter.unusedSimpArgs false
section
variable {I J : Nat → Option Obj} {ρ ρ' : Nat → Place}

theorem capRel_ren (g : Nat → Nat) : ∀ (caps : List Nat) (vs : List Value), CapRel (fun b => ρ (g b)) caps vs → CapRel ρ (caps.map g) vs
  | [], _, h => h
  | b :: r, vs, h => by
    obtain ⟨k, c, s, vs', h1, h2, h3⟩ := h
    exact ⟨k, c, s, vs', h1, h2, capRel_ren g r vs' h3⟩
theorem refRel_ren (g : Nat → Nat) {r : Ref} {v : Value} (h : RefRel (fun b => ρ (g b)) r v) : RefRel ρ (r.ren g) v := by
  cases r with
  | fn f caps => obtain ⟨vs, h1, h2⟩ := h; exact ⟨vs, h1, capRel_ren g caps _ h2⟩
  | _ => exact h
theorem flat_ren (g : Nat → Nat) : ∀ (τ : Ty) (x : τ.D) (vs : List Value), Flat I (fun b => ρ (g b)) τ x vs → Flat I ρ τ (renT g τ x) vs
  | .int _, _, _, h => h
  | .bool, _, _, h => h
  | .str, _, _, h => h
  | .nl, _, _, h => h
  | .nilp, _, _, h => h
  | .nilm, _, _, h => h
  | .nili, _, _, h => h
  | .nilf, _, _, h => h
  | .unit, _, _, h => h
  | .tag, _, _, h => h
  | .sl t, xs, vs, h => flat_mono (Sub.refl I) (.sl t) xs vs trivial h
  | .ptr t, x, vs, h => flat_mono (Sub.refl I) (.ptr t) x vs trivial h
  | .pair a b, x, vs, h => by
    obtain ⟨u, v, h1, h2, h3⟩ := h
    exact ⟨u, v, h1, flat_ren g a _ u h2, flat_ren g b _ v h3⟩
  | .arr n t, xs, vs, h => by
    refine ⟨?_, flats_ren g t xs vs h.2⟩
    show (List.map (renT g t) xs).length = n
    rw [List.length_map]; exact h.1
  | .ref, r, vs, h => by
    obtain ⟨v, h1, h2⟩ := h
    exact ⟨v, h1, refRel_ren g h2⟩
  | .ifc _ a, x, vs, h => by
    obtain ⟨v, us, h1, h2, h3⟩ := h
    exact ⟨v, us, h1, flat_ren g a x us h2, h3⟩
where
  flats_ren (g : Nat → Nat) (t : Ty) : ∀ (xs : List t.D) (vs : List Value), Flats (Flat I (fun b => ρ (g b)) t) xs vs → Flats (Flat I ρ t) (xs.map (renT g t)) vs
    | [], _, h => h
    | x :: xs, vs, h => by
      obtain ⟨u, v, h1, h2, h3⟩ := h
      exact ⟨u, v, h1, flat_ren g t x u h2, flats_ren g t xs v h3⟩

theorem flats_ren' (g : Nat → Nat) (t : Ty) : ∀ (xs : List t.D) (vs : List Value), Flats (Flat I (fun b => ρ (g b)) t) xs vs → Flats (Flat I ρ t) (xs.map (renT g t)) vs
  | [], _, h => h
  | x :: xs, vs, h => by
    obtain ⟨u, v, h1, h2, h3⟩ := h
    exact ⟨u, v, h1, flat_ren g t x u h2, flats_ren' g t xs v h3⟩

theorem names_of_ids {p : Nat → Prop} : ∀ (τ : Ty) (x : τ.D), (∀ b ∈ idsT τ x, p b) → Names p τ x
  | .int _, _, _ | .bool, _, _ | .str, _, _ | .nl, _, _ | .nilp, _, _ | .nilm, _, _ | .nili, _, _ | .nilf, _, _ | .unit, _, _ | .tag, _, _ | .sl _, _, _ | .ptr _, _, _ => trivial
  | .pair a b, x, h => ⟨names_of_ids a _ fun c hc => h c (List.mem_append_left _ hc), names_of_ids b _ fun c hc => h c (List.mem_append_right _ hc)⟩
  | .arr n t, xs, h => fun x hx => names_of_ids t x fun c hc => h c (List.mem_flatMap.2 ⟨x, hx, hc⟩)
  | .ifc _ a, x, h => names_of_ids a x h
  | .ref, r, h => by
    cases r with
    | dead => trivial
    | ptr b _ => exact h b (List.mem_singleton.2 rfl)
    | sl b _ _ => exact h b (List.mem_singleton.2 rfl)
    | mp b => exact h b (List.mem_singleton.2 rfl)
    | fn f caps => exact fun b hb => h b hb
theorem names_of_idsR {p : Nat → Prop} (τ : Ty) (x : τ.D) (h : ∀ b ∈ idsR τ x, p b) : Names p τ x := by
  unfold idsR at h
  cases hr : τ.refs with
  | false => exact names_norefs τ x hr
  | true => rw [hr] at h; exact names_of_ids τ x h
theorem namesAV_of_ids {p : Nat → Prop} (x : AV) (h : ∀ b ∈ x.ids, p b) : NamesAV p x := by
  cases x with
  | v τ x => exact names_of_idsR τ x h
  | tup l => exact fun s hs => names_of_idsR s.1 s.2 fun b hb => h b (List.mem_flatMap.2 ⟨s, hs, hb⟩)
  | dead => trivial
theorem namesH_of_ids {p : Nat → Prop} (o : HObj) (h : ∀ b ∈ o.ids, p b) : NamesH p o := by
  cases o with
  | dead => trivial
  | var τ x t => exact names_of_idsR τ x h
  | row τ xs t =>
    intro x hx
    cases hr : τ.refs with
    | false => exact names_norefs τ x hr
    | true =>
      refine names_of_ids τ x fun b hb => h b ?_
      show b ∈ cond τ.refs (xs.flatMap (idsT τ)) []
      rw [hr]
      exact List.mem_flatMap.2 ⟨x, hx, hb⟩
  | map κ τ es =>
    intro e he
    cases hr : κ.refs || τ.refs with
    | false =>
      rw [Bool.or_eq_false_iff] at hr
      exact ⟨names_norefs κ e.1 hr.1, names_norefs τ e.2 hr.2⟩
    | true =>
      have : ∀ b ∈ idsT κ e.1 ++ idsT τ e.2, p b := fun b hb => h b (by
        show b ∈ cond (κ.refs || τ.refs) (es.flatMap fun e => idsT κ e.1 ++ idsT τ e.2) []
        rw [hr]
        exact List.mem_flatMap.2 ⟨e, he, hb⟩)
      exact ⟨names_of_ids κ e.1 fun b hb => this b (List.mem_append_left _ hb), names_of_ids τ e.2 fun b hb => this b (List.mem_append_right _ hb)⟩

theorem flat_renR (g : Nat → Nat) {τ : Ty} {x : τ.D} {vs : List Value} (hn : Names (fun b => ρ' (g b) = ρ b) τ x) (hI : Sub I J) (h : Flat I ρ τ x vs) : Flat J ρ' τ (renR g τ x) vs := by
  have h1 : Flat J (fun b => ρ' (g b)) τ x vs := flat_mono hI τ x vs hn h
  unfold renR
  cases hr : τ.refs with
  | true => exact flat_ren g τ x vs h1
  | false => exact flat_mono (Sub.refl J) τ x vs (names_norefs τ x hr) h1
theorem val_renR (g : Nat → Nat) {τ : Ty} {x : τ.D} {v : Value} (hn : Names (fun b => ρ' (g b) = ρ b) τ x) (hI : Sub I J) (h : Val I ρ τ x v) : Val J ρ' τ (renR g τ x) v := by
  obtain ⟨us, h1, h2⟩ := h
  exact ⟨us, flat_renR g hn hI h1, h2⟩
theorem vals_renR (g : Nat → Nat) (hI : Sub I J) : ∀ (l : List SV) (vs : List Value), (∀ s ∈ l, Names (fun b => ρ' (g b) = ρ b) s.1 s.2) → Vals I ρ l vs → Vals J ρ' (l.map fun s => ⟨s.1, renR g s.1 s.2⟩) vs
  | [], _, _, h => h
  | s :: l, vs, hn, h => by
    obtain ⟨v, vs', h1, h2, h3⟩ := h
    exact ⟨v, vs', h1, val_renR g (hn s (List.mem_cons_self ..)) hI h2, vals_renR g hI l vs' (fun t ht => hn t (List.mem_cons_of_mem _ ht)) h3⟩
theorem avRel_ren (g : Nat → Nat) {x : AV} {v : Value} (hn : NamesAV (fun b => ρ' (g b) = ρ b) x) (hI : Sub I J) (h : AVRel I ρ x v) : AVRel J ρ' (x.ren g) v := by
  cases x with
  | v τ x => exact val_renR g hn hI h
  | tup l => obtain ⟨vs, h1, h2⟩ := h; exact ⟨vs, h1, vals_renR g hI l _ hn h2⟩
  | dead => trivial

theorem renT_norefs (g : Nat → Nat) {τ : Ty} (hr : τ.refs = false) (x : τ.D) {vs : List Value} (hI : Sub I J) (h : Flat I ρ τ x vs) : Flat J ρ' τ x vs := flat_mono hI τ x vs (names_norefs τ x hr) h

/-- An object under another name, in another world. -/
theorem hRel_ren (g : Nat → Nat) {w w' : World} {i j : Nat} {o : HObj} (hn : NamesH (fun b => ρ' (g b) = ρ b) o) (hI : Sub I J) (hi : ρ' j = ρ i) (hw : ∀ k c s, ρ i = .blk k c s → w'.heap[k]? = w.heap[k]?) (h : HRel I ρ w i o) : HRel J ρ' w' j (o.ren g) := by
  cases o with
  | dead => trivial
  | var τ x t =>
    obtain ⟨k, c, s, us, h1, h2, h3⟩ := h
    exact ⟨k, c, s, us, hi.trans h1, (hw _ _ _ h1).trans h2, flat_renR g hn hI h3⟩
  | row τ xs t =>
    rcases h with ⟨h1, rfl⟩ | ⟨k, c, us, spare, h1, h2, h3, h4, h5⟩
    · exact .inl ⟨hi.trans h1, by cases τ.refs <;> rfl⟩
    · refine .inr ⟨k, c, us, spare, hi.trans h1, (hw _ _ _ h1).trans h2, h3, ?_, ?_⟩
      · cases hr : τ.refs
        · exact h4
        · show (List.map _ xs).length ≤ c
          rw [List.length_map]; exact h4
      · have h5' : Flats (Flat J (fun b => ρ' (g b)) τ) xs us := flats_imp xs us (fun x hx vs hv => flat_mono hI τ x vs (hn x hx) hv) h5
        show Flats (Flat J ρ' τ) (cond τ.refs (xs.map (renT g τ)) xs) us
        cases hr : τ.refs
        · exact flats_imp xs us (fun x hx vs hv => flat_mono (Sub.refl J) τ x vs (names_norefs τ x hr) hv) h5'
        · exact flats_ren' g τ xs us h5'
  | map κ τ es =>
    obtain ⟨k, c, s, ms, clock, h1, h2, h3, h4⟩ := h
    refine ⟨k, c, s, ms, clock, hi.trans h1, (hw _ _ _ h1).trans h2, ?_, h4⟩
    have h3' : EntRel J (fun b => ρ' (g b)) κ τ es ms.toList := entRel_mono hI es _ hn h3
    show EntRel J ρ' κ τ (cond (κ.refs || τ.refs) (es.map fun e => (renT g κ e.1, renT g τ e.2)) es) ms.toList
    generalize ms.toList = l at h3'
    clear h2 h4 h3
    cases hr : κ.refs || τ.refs with
    | false =>
      rw [Bool.or_eq_false_iff] at hr
      exact entRel_mono (Sub.refl J) es l (fun e he => ⟨names_norefs κ e.1 hr.1, names_norefs τ e.2 hr.2⟩) h3'
    | true =>
      simp only [cond_true]
      clear hn
      induction es generalizing l with
      | nil => exact h3'
      | cons e es ih =>
        obtain ⟨m, ms', h1, ⟨u1, f1, g1⟩, ⟨u2, f2, g2⟩, h4⟩ := h3'
        exact ⟨m, ms', h1, ⟨u1, flat_ren g κ _ _ f1, g1⟩, ⟨u2, flat_ren g τ _ _ f2, g2⟩, ih ms' h4⟩
theorem live_ren (g : Nat → Nat) (o : HObj) : (o.ren g).live = o.live := by cases o <;> rfl
theorem isRow_ren (g : Nat → Nat) (o : HObj) : (o.ren g).isRow = o.isRow := by cases o <;> rfl
theorem isRow_kill (p : Nat → Bool) (o : HObj) : (o.kill p).isRow = o.isRow := by cases o <;> rfl

theorem names_and {p q : Nat → Prop} : ∀ (τ : Ty) (x : τ.D), Names p τ x → Names q τ x → Names (fun b => p b ∧ q b) τ x
  | .int _, _, _, _ | .bool, _, _, _ | .str, _, _, _ | .nl, _, _, _ | .nilp, _, _, _ | .nilm, _, _, _ | .nili, _, _, _ | .nilf, _, _, _ | .unit, _, _, _ | .tag, _, _, _ | .sl _, _, _, _ | .ptr _, _, _, _ => trivial
  | .pair a b, x, h, k => ⟨names_and a _ h.1 k.1, names_and b _ h.2 k.2⟩
  | .arr n t, xs, h, k => fun x hx => names_and t x (h x hx) (k x hx)
  | .ifc _ a, x, h, k => names_and a x h k
  | .ref, r, h, k => by
    cases r with
    | dead => trivial
    | ptr b _ => exact ⟨h, k⟩
    | sl b _ _ => exact ⟨h, k⟩
    | mp b => exact ⟨h, k⟩
    | fn f caps => exact fun b hb => ⟨h b hb, k b hb⟩
theorem namesH_imp {p q : Nat → Prop} (hpq : ∀ b, p b → q b) (o : HObj) (h : NamesH p o) : NamesH q o := by
  cases o with
  | dead => trivial
  | var τ x t => exact names_imp hpq τ x h
  | row τ xs t => exact fun x hx => names_imp hpq τ x (h x hx)
  | map κ τ es => exact fun e he => ⟨names_imp hpq κ _ (h e he).1, names_imp hpq τ _ (h e he).2⟩
theorem entRel_used {κ τ : Ty} : ∀ (es : List (κ.D × τ.D)) (ms : List MapEntry), EntRel I ρ κ τ es ms → ∀ e ∈ es, Names (fun b => ρ b ≠ .none) κ e.1 ∧ Names (fun b => ρ b ≠ .none) τ e.2
  | [], _, _, e, he => by cases he
  | x :: es, ms, h, e, he => by
    obtain ⟨m, ms', h1, h2, h3, h4⟩ := h
    rcases List.mem_cons.1 he with rfl | he
    · exact ⟨val_used h2, val_used h3⟩
    · exact entRel_used es ms' h4 e he
theorem hRel_used {w : World} {i : Nat} {o : HObj} (h : HRel I ρ w i o) : NamesH (fun b => ρ b ≠ .none) o := by
  cases o with
  | dead => trivial
  | var τ x t => obtain ⟨k, c, s, us, _, _, h3⟩ := h; exact flat_used τ x us h3
  | row τ xs t =>
    rcases h with ⟨_, rfl⟩ | ⟨k, c, us, spare, _, _, _, _, h5⟩
    · exact fun x hx => by cases hx
    · exact flats_each (fun x vs h => flat_used τ x vs h) xs us h5
  | map κ τ es => obtain ⟨k, c, s, ms, clock, _, _, h3, _⟩ := h; exact entRel_used es _ h3

/-! ### Lists of blocks -/
theorem memb_iff {b : Nat} : ∀ {l : List Nat}, memb b l = true ↔ b ∈ l
  | [] => by simp [memb]
  | x :: r => by
    simp only [memb]
    cases h : Nat.beq x b with
    | true => have := Nat.eq_of_beq_eq_true h; subst this; simp
    | false =>
      have hne : b ≠ x := fun e => by subst e; simp at h
      rw [cond_false, memb_iff]
      simp [hne]
theorem addTo_nodup : ∀ (r l : List Nat), l.Nodup → (addTo l r).Nodup
  | [], l, h => h
  | b :: r, l, h => by
    simp only [addTo]
    cases hm : memb b l with
    | true => exact addTo_nodup r l h
    | false =>
      refine addTo_nodup r (l ++ [b]) ?_
      rw [List.nodup_append]
      refine ⟨h, by simp, ?_⟩
      intro a ha c hc e
      rw [List.mem_singleton] at hc
      subst e hc
      have := (memb_iff (b := a) (l := l)).2 ha
      rw [hm] at this
      cases this
theorem reach_nodup (H : List HObj) : ∀ (n : Nat) (l : List Nat), l.Nodup → (reach H n l).Nodup
  | 0, l, h => h
  | n + 1, l, h => reach_nodup H n _ (addTo_nodup _ l h)
theorem place_lt {b : Nat} : ∀ {l : List Nat}, b ∈ l → place b l < l.length ∧ l[place b l]? = some b
  | [], h => by cases h
  | x :: r, h => by
    simp only [place]
    cases hx : Nat.beq x b with
    | true => have := Nat.eq_of_beq_eq_true hx; subst this; simp
    | false =>
      have hne : b ≠ x := fun e => by subst e; simp at hx
      rcases List.mem_cons.1 h with e | h
      · exact absurd e hne
      · obtain ⟨h1, h2⟩ := place_lt h
        simp only [cond_false]
        exact ⟨by simp only [List.length_cons]; omega, by simpa using h2⟩
theorem place_get {l : List Nat} (hn : l.Nodup) {i b : Nat} (h : l[i]? = some b) : place b l = i := by
  have hb : b ∈ l := List.mem_of_getElem? h
  obtain ⟨h1, h2⟩ := place_lt hb
  have hi := (List.getElem?_eq_some_iff.1 h).1
  have := (List.getElem?_inj hi hn).1 (h.trans h2.symm)
  exact this.symm
theorem setAll_get : ∀ (l : List Nat) (H Os : List HObj), l.Nodup → l.length = Os.length → (∀ b ∈ l, b < H.length) → (setAll H l Os).length = H.length ∧
    ∀ j, (setAll H l Os)[j]? = if j ∈ l then Os[place j l]? else H[j]?
  | [], H, Os, _, _, _ => ⟨by cases Os <;> rfl, fun j => by cases Os <;> simp [setAll]⟩
  | b :: l, H, [], _, h, _ => by simp at h
  | b :: l, H, o :: Os, hn, h, hl => by
    rw [List.nodup_cons] at hn
    obtain ⟨h1, h2⟩ := setAll_get l (H.set b o) Os hn.2 (by simpa using h) (fun c hc => by rw [List.length_set]; exact hl c (List.mem_cons_of_mem _ hc))
    refine ⟨by simp only [setAll]; rw [h1, List.length_set], fun j => ?_⟩
    simp only [setAll]
    rw [h2]
    by_cases hjb : b = j
    · subst hjb
      rw [if_neg hn.1, if_pos (List.mem_cons_self ..), List.getElem?_set_self (hl b (List.mem_cons_self ..))]
      simp [place]
    · have hx : Nat.beq b j = false := by
        cases hb : Nat.beq b j with
        | false => rfl
        | true => exact absurd (Nat.eq_of_beq_eq_true hb) hjb
      have hjm : (j ∈ b :: l) ↔ j ∈ l := by rw [List.mem_cons]; exact ⟨fun h => h.resolve_left (fun e => hjb e.symm), Or.inr⟩
      by_cases hj : j ∈ l
      · rw [if_pos hj, if_pos (hjm.2 hj)]
        simp [place, hx]
      · rw [if_neg hj, if_neg (fun h => hj (hjm.1 h)), List.getElem?_set_ne hjb]
end
end Go.Proofs.Ytdjdbjcapenjeaa.Dx

/- Calls: into a part of the heap, and back. -/
namespace Go.Proofs.Ytdjdbjcapenjeaa.Dx
open Go Go.RowKit
set_option linter.unusedVariables false
set_option linter.unusedSimpArgs false

/-- What a call leaves as it was: the blocks that were there are there, and those that are no rows stand where they stood. -/
structure Kept (H : List HObj) (ρ : Nat → Place) (H' : List HObj) (ρ' : Nat → Place) : Prop where
  len : H.length ≤ H'.length
  row : ∀ i, i < H.length → rowAt H i = false → rowAt H' i = false
  stay : ∀ i, i < H.length → rowAt H i = false → ρ' i = ρ i

theorem Kept.refl (H : List HObj) (ρ : Nat → Place) : Kept H ρ H ρ := ⟨Nat.le_refl _, fun _ _ h => h, fun _ _ _ => rfl⟩
theorem Kept.trans {H H1 H2 : List HObj} {ρ ρ1 ρ2 : Nat → Place} (h : Kept H ρ H1 ρ1) (k : Kept H1 ρ1 H2 ρ2) : Kept H ρ H2 ρ2 :=
  ⟨Nat.le_trans h.len k.len, fun i hi hr => k.row i (Nat.lt_of_lt_of_le hi h.len) (h.row i hi hr), fun i hi hr => (k.stay i (Nat.lt_of_lt_of_le hi h.len) (h.row i hi hr)).trans (h.stay i hi hr)⟩

def Back (B : Base) (I : Nat → Option Obj) (ρ : Nat → Place) (H : List HObj) (κ : AV → List HObj → Prop) (e : Ending) (w' : World) : Prop :=
  ∃ r v H' J ρ', e = .returned v ∧ κ r H' ∧ Sub I J ∧ AVRel J ρ' r v ∧ Inv B J ρ' H' w' ∧ Kept H ρ H' ρ'
/-- A function's contract: whatever the run on abstract values shows, the call does. -/
def SoundF (P : Program) (f : FuncId) (F : CF) : Prop :=
  ∀ args H κ, F args H κ → ∀ B I ρ w (vals : Array Value), Inv B I ρ H w → AVs I ρ args vals.toList → Calls P f vals w (Back B I ρ H κ)
/-- The same of a function that only computes. -/
def SoundP (P : Program) (f : FuncId) (F : List AV → PV) : Prop :=
  ∀ args, AllP (F args).1 → ∀ B I ρ w (vals : Array Value), Inv B I ρ [] w → AVs I ρ args vals.toList →
    Calls P f vals w fun e w' => ∃ v J, e = .returned v ∧ Sub I J ∧ AVRel J ρ (F args).2 v ∧ Inv B J ρ [] w'

section
variable {B : Base} {I : Nat → Option Obj} {ρ : Nat → Place} {H : List HObj} {w : World} {P : Program}

theorem avs_ren {J : Nat → Option Obj} {ρ' : Nat → Place} (g : Nat → Nat) (hI : Sub I J) : ∀ (l : List AV) (vs : List Value), (∀ x ∈ l, NamesAV (fun b => ρ' (g b) = ρ b) x) → AVs I ρ l vs → AVs J ρ' (l.map (AV.ren g)) vs
  | [], _, _, h => h
  | x :: r, vs, hn, h => by
    obtain ⟨v, vs', h1, h2, h3⟩ := h
    exact ⟨v, vs', h1, avRel_ren g (hn x (List.mem_cons_self ..)) hI h2, avs_ren g hI r vs' (fun y hy => hn y (List.mem_cons_of_mem _ hy)) h3⟩

open Classical in
/-- The rest of the heap stays as it is. -/
noncomputable def away (B : Base) (l : List Nat) (ρ : Nat → Place) (H : List HObj) (w : World) : Base :=
  { Z := fun k => if ∃ (j : Nat) (o : HObj) (c sz : Nat), j ∉ l ∧ H[j]? = some o ∧ o.live = true ∧ ρ j = .blk k c sz then w.heap[k]? else B.Z k
    os := B.os, tape := B.tape, output := B.output, n0 := w.heap.size }

theorem away_pos {l : List Nat} {k j : Nat} {o : HObj} {c sz : Nat} (h1 : j ∉ l) (h2 : H[j]? = some o) (h3 : o.live = true) (h4 : ρ j = .blk k c sz) : (away B l ρ H w).Z k = w.heap[k]? := if_pos ⟨j, o, c, sz, h1, h2, h3, h4⟩
theorem away_neg {l : List Nat} {k : Nat} (h : ¬ ∃ (j : Nat) (o : HObj) (c sz : Nat), j ∉ l ∧ H[j]? = some o ∧ o.live = true ∧ ρ j = .blk k c sz) : (away B l ρ H w).Z k = B.Z k := if_neg h

def small (l : List Nat) (ρ : Nat → Place) (i : Nat) : Place := match l[i]? with | some b => ρ b | none => .none
theorem small_place {l : List Nat} {b : Nat} (h : b ∈ l) : small l ρ (place b l) = ρ b := by
  unfold small
  rw [(place_lt h).2]

theorem inv_small (hinv : Inv B I ρ H w) {l : List Nat} (hn : l.Nodup) (hsh : shut H l = true) : Inv (away B l ρ H w) I (small l ρ) (l.map fun b => (H.getD b .dead).ren fun c => place c l) w := by
  have hl : ∀ b ∈ l, ∃ o, H[b]? = some o ∧ ∀ c ∈ o.ids, c ∈ l := by
    intro b hb
    have := List.all_eq_true.1 hsh b hb
    rw [Bool.and_eq_true] at this
    have hlt := Nat.le_of_ble_eq_true (show Nat.ble (b + 1) H.length = true from this.1)
    have hget : H[b]? = some H[b] := List.getElem?_eq_getElem hlt
    refine ⟨H[b], hget, fun c hc => ?_⟩
    have h2 := this.2
    unfold objIds at h2
    rw [hget] at h2
    exact memb_iff.1 (List.all_eq_true.1 h2 c hc)
  have hget : ∀ (i : Nat) (x : HObj), (l.map fun b => (H.getD b .dead).ren fun c => place c l)[i]? = some x → ∃ (b : Nat) (o : HObj), l[i]? = some b ∧ b ∈ l ∧ H[b]? = some o ∧ x = o.ren (fun c => place c l) ∧ ∀ c ∈ o.ids, c ∈ l := by
    intro i x hx
    rw [List.getElem?_map] at hx
    obtain ⟨b, h1, h2⟩ := Option.map_eq_some_iff.1 hx
    have hb := List.mem_of_getElem? h1
    obtain ⟨o, h3, h4⟩ := hl b hb
    refine ⟨b, o, h1, hb, h3, ?_, h4⟩
    rw [← h2, List.getD_eq_getElem?_getD, h3]
    rfl
  refine ⟨hinv.imm, ?_, ?_, ?_, ?_, ?_, ?_, hinv.os, hinv.tape, hinv.output, Nat.le_refl _⟩
  · intro k o hk
    rw [away_neg]
    · exact hinv.dis k o hk
    · rintro ⟨j, o', c, sz, h1, h2, h3, h4⟩
      have := (hinv.sep j o' h2 h3 k c sz h4).1
      rw [hk] at this
      cases this
  · intro k o hk
    by_cases h : ∃ (j : Nat) (o : HObj) (c sz : Nat), j ∉ l ∧ H[j]? = some o ∧ o.live = true ∧ ρ j = .blk k c sz
    · obtain ⟨j, o', c, sz, h1, h2, h3, h4⟩ := h
      rw [away_pos h1 h2 h3 h4] at hk
      exact hk
    · rw [away_neg h] at hk
      exact hinv.frm k o hk
  · intro i x hx
    obtain ⟨b, o, h1, h2, h3, rfl, h4⟩ := hget i x hx
    have hsm : small l ρ i = ρ b := by unfold small; rw [h1]
    exact hRel_ren _ (namesH_of_ids o fun c hc => small_place (h4 c hc)) (Sub.refl I) hsm (fun _ _ _ _ => rfl) (hinv.own b o h3)
  · intro i x hx hlx k c s hk
    obtain ⟨b, o, h1, h2, h3, rfl, h4⟩ := hget i x hx
    rw [live_ren] at hlx
    have hsm : small l ρ i = ρ b := by unfold small; rw [h1]
    rw [hsm] at hk
    obtain ⟨s1, s2, s3⟩ := hinv.sep b o h3 hlx k c s hk
    refine ⟨s1, ?_, s3⟩
    rw [away_neg]
    · exact s2
    · rintro ⟨j, o', c', sz, g1, g2, g3, g4⟩
      have := hinv.inj j b o' o g2 h3 g3 hlx k c' sz c s g4 hk
      rw [this] at g1
      exact g1 h2
  · intro i j oi oj hi hj li lj k c s c' s' hbi hbj
    obtain ⟨b, o, h1, h2, h3, rfl, h4⟩ := hget i oi hi
    obtain ⟨b', o', h1', h2', h3', rfl, h4'⟩ := hget j oj hj
    rw [live_ren] at li lj
    have hsm : small l ρ i = ρ b := by unfold small; rw [h1]
    have hsm' : small l ρ j = ρ b' := by unfold small; rw [h1']
    rw [hsm] at hbi
    rw [hsm'] at hbj
    have := hinv.inj b b' o o' h3 h3' li lj k c s c' s' hbi hbj
    subst this
    exact (List.getElem?_inj (List.getElem?_eq_some_iff.1 h1).1 hn).1 (h1.trans h1'.symm)
  · intro b hb
    rw [List.length_map] at hb
    unfold small
    rw [List.getElem?_eq_none hb]

/-- The places behind a call into the part l. -/
def after (l : List Nat) (n : Nat) (lone : Bool) (ρ ρc : Nat → Place) (j : Nat) : Place :=
  if j ∈ l then ρc (place j l) else if j < n then ρ j else cond lone .none (ρc (l.length + (j - n)))
def backN (l : List Nat) (n : Nat) (i : Nat) : Nat := cond (Nat.blt i l.length) (l.getD i 0) (n + (i - l.length))

theorem after_back {l : List Nat} (hn : l.Nodup) {n : Nat} (hlt : ∀ b ∈ l, b < n) {lone : Bool} {ρc : Nat → Place} {i : Nat} (hi : lone = true → i < l.length) : after l n lone ρ ρc (backN l n i) = ρc i := by
  unfold backN
  cases hb : Nat.blt i l.length with
  | true =>
    have hi := Nat.le_of_ble_eq_true (show Nat.ble (i + 1) l.length = true from hb)
    have hg : l[i]? = some (l.getD i 0) := by rw [List.getD_eq_getElem?_getD, List.getElem?_eq_getElem hi]; rfl
    rw [cond_true]
    unfold after
    rw [if_pos (List.mem_of_getElem? hg), place_get hn hg]
  | false =>
    have hge : l.length ≤ i := by
      rcases Nat.lt_or_ge i l.length with h | h
      · have := Nat.ble_eq_true_of_le (show i + 1 ≤ l.length from h)
        rw [show Nat.blt i l.length = Nat.ble (i + 1) l.length from rfl, this] at hb
        cases hb
      · exact h
    rw [cond_false]
    unfold after
    rw [if_neg (fun h => by have := hlt _ h; omega), if_neg (by omega)]
    cases lone with
    | true => exact absurd (hi rfl) (by omega)
    | false =>
      rw [cond_false]
      congr 1
      omega

theorem rowAt_map (f : HObj → HObj) (hf : ∀ o, (f o).isRow = o.isRow) (H : List HObj) (i : Nat) : rowAt (H.map f) i = rowAt H i := by
  unfold rowAt
  rw [List.getElem?_map]
  cases H[i]? with
  | none => rfl
  | some o => exact hf o

/-- Behind the call: the whole heap again. -/
theorem inv_back (hinv : Inv B I ρ H w) {l : List Nat} (hn : l.Nodup) (hsh : shut H l = true) {J : Nat → Option Obj} {ρc : Nat → Place} {Hs : List HObj} {w' : World} (hIJ : Sub I J)
    (hc : Inv (away B l ρ H w) J ρc Hs w') (hk : Kept (l.map fun b => (H.getD b .dead).ren fun c => place c l) (small l ρ) Hs ρc) {rows : Nat → Bool} (hrows : ∀ b, rows b = (memb b l && rowAt H b)) {lone : Bool}
    (hlone : lone = true → ∀ o ∈ Hs.take l.length, ∀ b ∈ o.ids, b < l.length) :
    Inv B J (after l H.length lone ρ ρc) (cond lone (setAll (H.map (HObj.kill rows)) l ((Hs.take l.length).map (HObj.ren (backN l H.length)))) (setAll (H.map (HObj.kill rows)) l ((Hs.take l.length).map (HObj.ren (backN l H.length))) ++ (Hs.drop l.length).map (HObj.ren (backN l H.length)))) w' ∧
    Kept H ρ (cond lone (setAll (H.map (HObj.kill rows)) l ((Hs.take l.length).map (HObj.ren (backN l H.length)))) (setAll (H.map (HObj.kill rows)) l ((Hs.take l.length).map (HObj.ren (backN l H.length))) ++ (Hs.drop l.length).map (HObj.ren (backN l H.length)))) (after l H.length lone ρ ρc) ∧
    (∀ b, rows b = false → ρ b ≠ .none → after l H.length lone ρ ρc b = ρ b) := by
  have hlt : ∀ b ∈ l, b < H.length := by
    intro b hb
    have := List.all_eq_true.1 hsh b hb
    rw [Bool.and_eq_true] at this
    exact Nat.le_of_ble_eq_true (show Nat.ble (b + 1) H.length = true from this.1)
  have hslen : l.length ≤ Hs.length := by simpa using hk.len
  obtain ⟨g1, g2⟩ := setAll_get l (H.map (HObj.kill rows)) ((Hs.take l.length).map (HObj.ren (backN l H.length))) hn (by simp; omega) (fun b hb => by rw [List.length_map]; exact hlt b hb)
  rw [List.length_map] at g1
  generalize hS : setAll (H.map (HObj.kill rows)) l ((Hs.take l.length).map (HObj.ren (backN l H.length))) = S at g1 g2 ⊢
  -- where what stands
  have hstay : ∀ b, rows b = false → ρ b ≠ .none → after l H.length lone ρ ρc b = ρ b := by
    intro b hb hne
    have hbl : b < H.length := by
      rcases Nat.lt_or_ge b H.length with h | h
      · exact h
      · exact absurd (hinv.fresh b h) hne
    unfold after
    by_cases hm : b ∈ l
    · rw [if_pos hm]
      rw [hrows, memb_iff.2 hm, Bool.true_and] at hb
      obtain ⟨p1, p2⟩ := place_lt hm
      have hrs : rowAt (l.map fun b => (H.getD b .dead).ren fun c => place c l) (place b l) = rowAt H b := by
        unfold rowAt
        rw [List.getElem?_map, p2, Option.map_some, List.getD_eq_getElem?_getD, List.getElem?_eq_getElem hbl]
        exact isRow_ren _ _
      rw [hk.stay (place b l) (by rw [List.length_map]; exact p1) (hrs.trans hb), small_place hm]
    · rw [if_neg hm, if_pos hbl]
  -- the objects, one by one
  have hobj : ∀ j o, (cond lone S (S ++ (Hs.drop l.length).map (HObj.ren (backN l H.length))))[j]? = some o →
      (j ∉ l ∧ j < H.length ∧ ∃ y, H[j]? = some y ∧ o = y.kill rows) ∨ (∃ i y, Hs[i]? = some y ∧ o = y.ren (backN l H.length) ∧ j = backN l H.length i ∧ (lone = true → i < l.length) ∧ (j ∈ l ↔ i < l.length) ∧ (lone = true → ∀ b ∈ y.ids, b < l.length)) := by
    intro j o hj
    have hSj : ∀ o, S[j]? = some o → (j ∉ l ∧ j < H.length ∧ ∃ y, H[j]? = some y ∧ o = y.kill rows) ∨ (∃ i y, Hs[i]? = some y ∧ o = y.ren (backN l H.length) ∧ j = backN l H.length i ∧ (lone = true → i < l.length) ∧ (j ∈ l ↔ i < l.length) ∧ (lone = true → ∀ b ∈ y.ids, b < l.length)) := by
      intro o hj
      rw [g2] at hj
      split at hj
      · rename_i hm
        obtain ⟨p1, p2⟩ := place_lt hm
        rw [List.getElem?_map] at hj
        obtain ⟨y, hy, he⟩ := Option.map_eq_some_iff.1 hj
        have hyt := List.mem_of_getElem? hy
        rw [List.getElem?_take, if_pos p1] at hy
        refine .inr ⟨place j l, y, hy, he.symm, ?_, fun _ => p1, ⟨fun _ => p1, fun _ => hm⟩, fun h => hlone h y hyt⟩
        unfold backN
        rw [show Nat.blt (place j l) l.length = true from Nat.ble_eq_true_of_le p1, cond_true, List.getD_eq_getElem?_getD, p2]
        rfl
      · rename_i hm
        rw [List.getElem?_map] at hj
        obtain ⟨y, hy, he⟩ := Option.map_eq_some_iff.1 hj
        exact .inl ⟨hm, (List.getElem?_eq_some_iff.1 hy).1, y, hy, he.symm⟩
    cases hlo : lone with
    | true => rw [hlo, cond_true] at hj; rw [hlo] at hSj; exact hSj o hj
    | false =>
      rw [hlo, cond_false] at hj
      rw [hlo] at hSj
      by_cases hjl : j < S.length
      · rw [List.getElem?_append_left hjl] at hj
        exact hSj o hj
      · rw [List.getElem?_append_right (by omega), List.getElem?_map, List.getElem?_drop] at hj
        obtain ⟨y, hy, he⟩ := Option.map_eq_some_iff.1 hj
        refine .inr ⟨l.length + (j - S.length), y, hy, he.symm, ?_, (fun h => by cases h), ⟨(fun h => by have := hlt j h; omega), (fun h => by omega)⟩, (fun h => by cases h)⟩
        unfold backN
        have : Nat.blt (l.length + (j - S.length)) l.length = false := by
          cases hb : Nat.blt (l.length + (j - S.length)) l.length with
          | false => rfl
          | true => have := Nat.le_of_ble_eq_true (show Nat.ble (l.length + (j - S.length) + 1) l.length = true from hb); omega
        rw [this, cond_false]
        omega
  have hZ : ∀ k o, B.Z k = some o → (away B l ρ H w).Z k = some o := by
    intro k o hk
    rw [away_neg]
    · exact hk
    · rintro ⟨j, o', c, sz, h1, h2, h3, h4⟩
      have := (hinv.sep j o' h2 h3 k c sz h4).2.1
      rw [hk] at this
      cases this
  refine ⟨⟨hc.imm, ?_, fun k o hk => hc.frm k o (hZ k o hk), ?_, ?_, ?_, ?_, hc.os, hc.tape, hc.output, Nat.le_trans hinv.size hc.size⟩, ⟨?_, ?_, ?_⟩, hstay⟩
  · intro k o hk
    have := hc.dis k o hk
    cases he : B.Z k with
    | none => rfl
    | some o' => rw [hZ k o' he] at this; cases this
  · intro j o hj
    rcases hobj j o hj with ⟨hm, hjl, y, hy, rfl⟩ | ⟨i, y, hy, rfl, rfl, hlo, _, hids⟩
    · cases hly : y.live with
      | false => cases y <;> first | trivial | (simp [HObj.live] at hly)
      | true =>
        have hk0 := hRel_kill (p := rows) (hinv.own j y hy)
        have hnm : NamesH (fun b => rows b = false ∧ ρ b ≠ .none) (y.kill rows) := by
          have h1 := namesH_kill rows y
          have h2 := hRel_used hk0
          revert h1 h2
          generalize y.kill rows = z
          intro h1 h2
          cases z with
          | dead => trivial
          | var τ x t => exact names_and τ x h1 h2
          | row τ xs t => exact fun x hx => names_and τ x (h1 x hx) (h2 x hx)
          | map κ τ es => exact fun e he => ⟨names_and κ _ (h1 e he).1 (h2 e he).1, names_and τ _ (h1 e he).2 (h2 e he).2⟩
        have hnm' : NamesH (fun b => after l H.length lone ρ ρc b = ρ b) (y.kill rows) := namesH_imp (fun b hb => hstay b hb.1 hb.2) _ hnm
        refine hRel_mono hIJ hnm' (by unfold after; rw [if_neg hm, if_pos hjl]) (fun k c s hb => ?_) hk0
        have hZk := away_pos (B := B) (w := w) hm hy hly hb
        have hlk := (hinv.sep j y hy hly k c s hb).2.2
        have hwk : w.heap[k]? = some w.heap[k] := Array.getElem?_eq_getElem hlk
        rw [hwk] at hZk ⊢
        exact hc.frm k _ hZk
    · refine hRel_ren (backN l H.length) (namesH_of_ids y fun b hb => after_back hn hlt fun h => hids h b hb) (Sub.refl J) (after_back hn hlt hlo) (fun _ _ _ _ => rfl) (hc.own i y hy)
  · intro j o hj hl k c s hb
    rcases hobj j o hj with ⟨hm, hjl, y, hy, rfl⟩ | ⟨i, y, hy, rfl, rfl, hlo, _, hids⟩
    · rw [live_kill] at hl
      have hb' : ρ j = .blk k c s := by
        unfold after at hb
        rw [if_neg hm, if_pos hjl] at hb
        exact hb
      obtain ⟨s1, s2, s3⟩ := hinv.sep j y hy hl k c s hb'
      have hZk := away_pos (B := B) (w := w) hm hy hl hb'
      rw [Array.getElem?_eq_getElem s3] at hZk
      refine ⟨?_, s2, Nat.lt_of_lt_of_le s3 hc.size⟩
      cases he : J k with
      | none => rfl
      | some o' => have := hc.dis k o' he; rw [hZk] at this; cases this
    · rw [live_ren] at hl
      rw [after_back hn hlt hlo] at hb
      obtain ⟨s1, s2, s3⟩ := hc.sep i y hy hl k c s hb
      refine ⟨s1, ?_, s3⟩
      cases he : B.Z k with
      | none => rfl
      | some o' => rw [hZ k o' he] at s2; cases s2
  · intro j j' o o' hj hj' hl hl' k c s c' s' hb hb'
    have cross : ∀ {j j' : Nat} {y y' : HObj} {i : Nat} {c s c' s' : Nat}, j ∉ l → j < H.length → H[j]? = some y → y.live = true → ρ j = .blk k c s → Hs[i]? = some y' → y'.live = true → ρc i = .blk k c' s' → False := by
      intro j j' y y' i c s c' s' hm hjl hy hly hb hy' hly' hb'
      have hZk := away_pos (B := B) (w := w) hm hy hly hb
      have s3 := (hinv.sep j y hy hly k c s hb).2.2
      rw [Array.getElem?_eq_getElem s3] at hZk
      have := (hc.sep i y' hy' hly' k c' s' hb').2.1
      rw [hZk] at this
      cases this
    have hlow : ∀ {j : Nat} {q : Place}, j ∉ l → j < H.length → after l H.length lone ρ ρc j = q → ρ j = q := by
      intro j q hm hjl h
      unfold after at h
      rw [if_neg hm, if_pos hjl] at h
      exact h
    rcases hobj j o hj with ⟨hm, hjl, y, hy, rfl⟩ | ⟨i, y, hy, rfl, rfl, hlo, _, hids⟩ <;> rcases hobj j' o' hj' with ⟨hm', hjl', y', hy', rfl⟩ | ⟨i', y', hy', rfl, rfl, hlo', _, hids'⟩
    · rw [live_kill] at hl hl'
      exact hinv.inj j j' y y' hy hy' hl hl' k c s c' s' (hlow hm hjl hb) (hlow hm' hjl' hb')
    · rw [live_kill] at hl
      rw [live_ren] at hl'
      rw [after_back hn hlt hlo'] at hb'
      exact (cross (j' := 0) hm hjl hy hl (hlow hm hjl hb) hy' hl' hb').elim
    · rw [live_kill] at hl'
      rw [live_ren] at hl
      rw [after_back hn hlt hlo] at hb
      exact (cross (j' := 0) hm' hjl' hy' hl' (hlow hm' hjl' hb') hy hl hb).elim
    · rw [live_ren] at hl hl'
      rw [after_back hn hlt hlo] at hb
      rw [after_back hn hlt hlo'] at hb'
      rw [hc.inj i i' y y' hy hy' hl hl' k c s c' s' hb hb']
  · intro b hb
    cases hlo : lone with
    | true =>
      rw [hlo, cond_true] at hb
      unfold after
      rw [if_neg (fun h => by have := hlt b h; omega), if_neg (by omega)]
      rfl
    | false =>
      rw [hlo, cond_false, List.length_append, List.length_map, List.length_drop] at hb
      unfold after
      rw [if_neg (fun h => by have := hlt b h; omega), if_neg (by omega), cond_false]
      exact hc.fresh _ (by omega)
  · cases lone
    · rw [cond_false, List.length_append]; omega
    · rw [cond_true]; omega
  · intro i hi h0
    have h1 : rowAt (cond lone S (S ++ (Hs.drop l.length).map (HObj.ren (backN l H.length)))) i = rowAt S i := by
      cases lone
      · unfold rowAt
        rw [cond_false, List.getElem?_append_left (by omega)]
      · rfl
    rw [h1]
    unfold rowAt
    rw [g2]
    by_cases hm : i ∈ l
    · rw [if_pos hm]
      obtain ⟨p1, p2⟩ := place_lt hm
      have hr := hk.row (place i l) (by rw [List.length_map]; exact p1)
      unfold rowAt at hr h0
      rw [List.getElem?_map (l := l), p2, Option.map_some] at hr
      rw [List.getElem?_map, List.getElem?_take, if_pos p1]
      rw [List.getD_eq_getElem?_getD, List.getElem?_eq_getElem hi] at hr
      rw [List.getElem?_eq_getElem hi] at h0
      rw [List.getElem?_eq_getElem (by omega)] at hr ⊢
      simp only [Option.map_some, isRow_ren] at hr ⊢
      exact hr h0
    · rw [if_neg hm, List.getElem?_map]
      unfold rowAt at h0
      revert h0
      cases H[i]? with
      | none => exact fun _ => rfl
      | some y => exact fun h0 => (isRow_kill _ _).trans h0
  · intro i hi hr
    unfold after
    by_cases hm : i ∈ l
    · rw [if_pos hm]
      obtain ⟨p1, p2⟩ := place_lt hm
      have hrs : rowAt (l.map fun b => (H.getD b .dead).ren fun c => place c l) (place i l) = rowAt H i := by
        unfold rowAt
        rw [List.getElem?_map, p2, Option.map_some, List.getD_eq_getElem?_getD, List.getElem?_eq_getElem hi]
        exact isRow_ren _ _
      rw [hk.stay (place i l) (by rw [List.length_map]; exact p1) (hrs.trans hr), small_place hm]
    · rw [if_neg hm, if_pos hi]
end
end Go.Proofs.Ytdjdbjcapenjeaa.Dx

/- Memory of one's own that is lent to a function that only computes. -/
namespace Go.Proofs.Ytdjdbjcapenjeaa.Dx
open Go Go.RowKit
set_option linter.unusedVariables false
set_option linter.unusedSimpArgs false
section
variable {B : Base} {I : Nat → Option Obj} {ρ : Nat → Place} {H : List HObj} {w : World} {P : Program}

def OwnAt (ρ : Nat → Place) (H : List HObj) (k : Nat) : Prop := ∃ (j : Nat) (o : HObj) (c s : Nat), H[j]? = some o ∧ o.live = true ∧ ρ j = .blk k c s
open Classical in
/-- What stays, and what is lent. -/
noncomputable def lent (I : Nat → Option Obj) (ρ : Nat → Place) (H : List HObj) (w : World) (k : Nat) : Option Obj := if OwnAt ρ H k then w.heap[k]? else I k
open Classical in
noncomputable def unlent (J : Nat → Option Obj) (ρ : Nat → Place) (H : List HObj) (k : Nat) : Option Obj := if OwnAt ρ H k then none else J k

theorem lent_own {k : Nat} (h : OwnAt ρ H k) : lent I ρ H w k = w.heap[k]? := if_pos h
theorem lent_not {k : Nat} (h : ¬ OwnAt ρ H k) : lent I ρ H w k = I k := if_neg h
theorem sub_lent (hinv : Inv B I ρ H w) : Sub I (lent I ρ H w) := by
  intro k o hk
  by_cases h : OwnAt ρ H k
  · obtain ⟨j, o', c, s, h1, h2, h3⟩ := h
    have := (hinv.sep j o' h1 h2 k c s h3).1
    rw [hk] at this
    cases this
  · rw [lent_not h]; exact hk

theorem getH_seg (hinv : Inv B I ρ H w) {b : Nat} {o : HObj} (ho : H[b]? = some o) {p : List PE} (hc : AllP (getH p o).1) {σ : Ty} {y : σ.D} (e : (getH p o).2 = .v σ y) :
    ∃ g c s el pre mid post, ρ b = .blk g c s ∧ w.heap[g]? = some (.cells (pre ++ mid ++ post).toArray el (0, 0)) ∧ pre.length = offs p ∧ Flat I ρ σ y mid := by
  have hr := hinv.own b o ho
  cases o with
  | dead => simp [getH, bad] at e
  | map κ τ es => simp [getH, bad] at e
  | var τ x t =>
    obtain ⟨g, c, s, us, h1, h2, h3⟩ := hr
    obtain ⟨pre, mid, post, rfl, hl, hm⟩ := getP_flat p τ x us h3 hc σ y e
    exact ⟨g, c, s, t, pre, mid, post, h1, h2, hl, hm⟩
  | row τ xs t =>
    cases p with
    | nil => simp [getH, bad] at e
    | cons q r =>
      cases q with
      | fld k off => simp [getH, bad] at e
      | idx i s =>
        simp only [getH] at e hc
        cases hb : Nat.beq s τ.size with
        | false => rw [hb] at e; simp [bad] at e
        | true =>
          rw [hb] at e hc
          simp only [cond_true] at e hc
          have hs := Nat.eq_of_beq_eq_true hb
          rcases hr with ⟨_, rfl⟩ | ⟨g, c, us, spare, h1, h2, h3, h4, h5⟩
          · simp [AllP] at hc
          · obtain ⟨pre, mid, post, rfl, hl, hm⟩ := flats_get (fun x vs h => flat_length τ x vs h) τ.dflt xs us i h5 hc.1
            obtain ⟨pre', mid', post', rfl, hl', hm'⟩ := getP_flat r τ _ mid hm hc.2 σ y e
            refine ⟨g, c, _, t, pre ++ pre', mid', post' ++ post ++ spare, h1, ?_, ?_, hm'⟩
            · rw [h2]; congr 2; simp [List.append_assoc]
            · rw [List.length_append, hl, hl', hs]; rfl

theorem allP_app {a b : List Prop} (h : AllP (a ++ b)) : AllP a ∧ AllP b := by
  induction a with
  | nil => exact ⟨trivial, h⟩
  | cons p a ih => exact ⟨⟨h.1, (ih h.2).1⟩, (ih h.2).2⟩

theorem coE_ok {I' : Nat → Option Obj} (hsub : Sub I I') {ρ' : Nat → Place} (τ' τ : Ty) (x : τ.D) (us : List Value) (c : List Prop) (x' : τ'.D) (hf : Flat I ρ τ x us) (hco : coE τ' τ x = (c, some x')) (hc : AllP c) : Flat I' ρ' τ' x' us ∧ τ'.refs = false := by
  unfold coE at hco
  split at hco
  · rename_i h
    subst h
    cases hr : τ.refs with
    | true => rw [hr] at hco; cases hco
    | false =>
      rw [hr] at hco
      cases hco
      exact ⟨flat_mono hsub τ x us (names_norefs τ x hr) hf, rfl⟩
  · cases hco
theorem coE_agg (τ' τ : Ty) (x : τ.D) (c : List Prop) (x' : τ'.D) (h : coE τ' τ x = (c, some x')) : τ'.agg = τ.agg := by
  unfold coE at h
  split at h
  · rename_i e; subst e; rfl
  · cases h
theorem coT_ok (hinv : Inv B I ρ H w) {ρ' : Nat → Place} : ∀ (τ' τ : Ty) (x : τ.D) (us : List Value) (c : List Prop) (x' : τ'.D), Flat I ρ τ x us → coT H τ' τ x = (c, some x') → AllP c → Flat (lent I ρ H w) ρ' τ' x' us ∧ (τ'.refs = false ∨ ∃ t, τ' = .sl t ∨ τ' = .ptr t) := by
  have hsub := sub_lent hinv
  intro τ'
  induction τ' with
  | sl t iht =>
    intro τ x us c x' hf hco hc
    refine ⟨?_, .inr ⟨t, .inl rfl⟩⟩
    cases τ with
    | sl σ =>
      simp only [coT] at hco
      split at hco
      · rename_i h
        subst h
        cases hco
        exact flat_mono hsub (.sl σ) x us trivial hf
      · cases hco
    | nl =>
      simp only [coT] at hco
      cases hr : t.refs with
      | true => rw [hr] at hco; cases hco
      | false =>
        rw [hr] at hco
        cases hco
        simp only [Flat] at hf
        subst hf
        exact ⟨hr, none, 0, rfl, Nat.le_refl _, .inl rfl⟩
    | ref =>
      cases x with
      | sl b off len =>
        simp only [coT] at hco
        split at hco
        · rename_i σ xs tt hb
          split at hco
          · rename_i h
            subst h
            cases hr : σ.refs with
            | true => rw [hr] at hco; cases hco
            | false =>
              rw [hr] at hco
              simp only [cond_false] at hco
              cases hco
              have hlen : off + len ≤ xs.length := hc.1
              obtain ⟨v, rfl, hrr⟩ := hf
              have hys : ((xs.drop off).take len).length = len := by simp; omega
              simp only [RefRel] at hrr
              rcases hinv.own b _ hb with ⟨h1, rfl⟩ | ⟨g, cc, us, spare, h1, h2, h3, h4, h5⟩
              · rw [h1] at hrr
                obtain ⟨_, rfl, rfl⟩ := hrr
                exact ⟨hr, none, 0, by simp, by simp, .inl (by simp)⟩
              · rw [h1] at hrr
                obtain ⟨a, h6, rfl, h7, h8, h9⟩ := hrr
                obtain ⟨u1, u2, rfl, _, k2, k3⟩ := flats_split (fun x vs h => flat_length σ x vs h) off xs us h5
                obtain ⟨u3, u4, rfl, k4, _, k5⟩ := flats_split (fun x vs h => flat_length σ x vs h) len (xs.drop off) u2 k2
                refine ⟨hr, some a, cc - off, by rw [hys], by rw [hys]; omega, ?_⟩
                by_cases h0 : len = 0
                · subst h0; exact .inl (by simp)
                · refine .inr ⟨a, u3, rfl, h8, ⟨(u1 ++ (u3 ++ u4) ++ spare).toArray, tt, (0, 0), u1, u4 ++ spare, ?_, by simp [List.append_assoc], ?_⟩, flats_imp _ _ (fun x _ us hu => flat_mono hsub σ x us (names_norefs σ x hr) hu) k4⟩
                  · rw [h7, lent_own ⟨b, _, cc, σ.size, hb, rfl, h1⟩]
                    exact h2
                  · rw [k3 (by omega), h9 (by omega)]
          · cases hco
        · cases hco
      | _ => simp [coT] at hco
    | _ => simp [coT] at hco
  | ptr t iht =>
    intro τ x us c x' hf hco hc
    refine ⟨?_, .inr ⟨t, .inr rfl⟩⟩
    cases τ with
    | ptr σ =>
      simp only [coT] at hco
      split at hco
      · rename_i h
        subst h
        cases hco
        exact flat_mono hsub (.ptr σ) x us trivial hf
      · cases hco
    | ref =>
      cases x with
      | ptr b p =>
        simp only [coT] at hco
        split at hco
        · rename_i o ho
          cases hg : getH p o with
          | mk c1 q =>
            rw [hg] at hco
            cases q with
            | tup l => cases hco
            | dead => cases hco
            | v σ y =>
              simp only at hco
              cases hq : coT H t σ y with
              | mk c2 z =>
                rw [hq] at hco
                cases z with
                | none => cases hco
                | some z =>
                  simp only at hco
                  cases hr : t.refs with
                  | true => rw [hr] at hco; cases hco
                  | false =>
                    rw [hr] at hco
                    simp only [cond_false] at hco
                    cases hco
                    obtain ⟨k1, k2⟩ := allP_app hc
                    obtain ⟨g, cc, s, el, pre, mid, post, g1, g2, g3, g4⟩ := getH_seg hinv ho (by rw [hg]; exact k1) (by rw [hg])
                    obtain ⟨v, rfl, g', c', s', g5, rfl⟩ := hf
                    rw [g1] at g5
                    cases g5
                    have hfl := (iht σ y mid c2 _ g4 hq k2).1
                    have hlive : o.live = true := by
                      cases o with
                      | dead => simp [getH, bad] at hg
                      | _ => rfl
                    refine ⟨hr, _, mid, rfl, rfl, ⟨(pre ++ mid ++ post).toArray, el, (0, 0), pre, post, ?_, by simp, g3⟩, hfl⟩
                    rw [lent_own ⟨b, o, cc, s, ho, hlive, g1⟩]
                    exact g2
        · cases hco
      | _ => simp [coT] at hco
    | _ => simp [coT] at hco
  | pair a b iha ihb =>
    intro τ x us c x' hf hco hc
    cases τ with
    | pair a' b' =>
      simp only [coT] at hco
      cases h1 : coT H a a' x.1 with
      | mk c1 q1 =>
        cases h2 : coT H b b' x.2 with
        | mk c2 q2 =>
          rw [h1, h2] at hco
          cases q1 with
          | none => cases q2 <;> simp at hco
          | some y =>
            cases q2 with
            | none => simp at hco
            | some z =>
              simp only at hco
              cases hco
              obtain ⟨k1, k2⟩ := allP_app hc
              obtain ⟨u, v, rfl, f1, f2⟩ := hf
              obtain ⟨r1, r1'⟩ := iha a' x.1 u c1 y f1 h1 k1
              obtain ⟨r2, r2'⟩ := ihb b' x.2 v c2 z f2 h2 k2
              refine ⟨⟨u, v, rfl, r1, r2⟩, .inl ?_⟩
              have e1 : a.refs = false := by
                rcases r1' with h | ⟨t, rfl | rfl⟩
                · exact h
                · obtain ⟨h, _⟩ := r1; exact h
                · obtain ⟨h, _⟩ := r1; exact h
              have e2 : b.refs = false := by
                rcases r2' with h | ⟨t, rfl | rfl⟩
                · exact h
                · obtain ⟨h, _⟩ := r2; exact h
                · obtain ⟨h, _⟩ := r2; exact h
              simp [Ty.refs, e1, e2]
    | _ => simp [coT] at hco
  | _ =>
    intro τ x us c x' hf hco hc
    simp only [coT] at hco
    obtain ⟨h1, h2⟩ := coE_ok hsub _ τ x us c x' hf hco hc
    exact ⟨h1, .inl h2⟩

theorem coT_agg : ∀ (τ' τ : Ty) (x : τ.D) (c : List Prop) (x' : τ'.D), coT H τ' τ x = (c, some x') → τ'.agg = τ.agg := by
  intro τ'
  cases τ' with
  | sl t =>
    intro τ x c x' h
    cases τ with
    | sl σ => rfl
    | nl => rfl
    | ref => rfl
    | _ => simp [coT] at h
  | ptr t =>
    intro τ x c x' h
    cases τ with
    | ptr σ => rfl
    | ref => rfl
    | _ => simp [coT] at h
  | pair a b =>
    intro τ x c x' h
    cases τ with
    | pair a' b' => rfl
    | _ => simp [coT] at h
  | _ =>
    intro τ x c x' h
    simp only [coT] at h
    exact coE_agg _ τ x c x' h

theorem coU_ok (hinv : Inv B I ρ H w) {ρ' : Nat → Place} (τ' τ : Ty) (x : τ.D) (us : List Value) (c : List Prop) (x' : τ'.D) (hf : Flat I ρ τ x us) (h : coU H τ' τ x = (c, some x')) (hc : AllP c) : Flat (lent I ρ H w) ρ' τ' x' us := by
  unfold coU at h
  split at h
  · rename_i e
    subst e
    cases hr : τ.refs with
    | true => rw [hr] at h; exact (coT_ok hinv τ τ x us c x' hf h hc).1
    | false =>
      rw [hr] at h
      cases h
      exact flat_mono (sub_lent hinv) τ x us (names_norefs τ x hr) hf
  · exact (coT_ok hinv τ' τ x us c x' hf h hc).1
theorem coU_agg (τ' τ : Ty) (x : τ.D) (c : List Prop) (x' : τ'.D) (h : coU H τ' τ x = (c, some x')) : τ'.agg = τ.agg := by
  unfold coU at h
  split at h
  · rename_i e; rw [e]
  · exact coT_agg τ' τ x c x' h
theorem coArgs_ok (hinv : Inv B I ρ H w) {ρ' : Nat → Place} : ∀ (ts : List Ty) (args : List AV) (vs : List Value) (c : List Prop) (xs : List AV), AVs I ρ args vs → coArgs H ts args = (c, some xs) → AllP c → AVs (lent I ρ H w) ρ' xs vs
  | [], [], vs, c, xs, h, hco, _ => by cases hco; exact h
  | [], a :: r, vs, c, xs, h, hco, _ => by simp [coArgs] at hco
  | t :: ts, [], vs, c, xs, h, hco, _ => by simp [coArgs] at hco
  | t :: ts, .tup l :: r, vs, c, xs, h, hco, _ => by simp [coArgs] at hco
  | t :: ts, .dead :: r, vs, c, xs, h, hco, _ => by simp [coArgs] at hco
  | t :: ts, .v τ x :: r, vs, c, xs, h, hco, hc => by
    obtain ⟨v, vs', rfl, ⟨us, h1, h2⟩, h3⟩ := h
    simp only [coArgs] at hco
    cases q1 : coU H t τ x with
    | mk c1 y =>
      cases q2 : coArgs H ts r with
      | mk c2 l =>
        rw [q1, q2] at hco
        cases y with
        | none => cases l <;> simp at hco
        | some y =>
          cases l with
          | none => simp at hco
          | some l =>
            simp only at hco
            cases hco
            obtain ⟨k1, k2⟩ := allP_app hc
            refine ⟨v, vs', rfl, ⟨us, coU_ok hinv t τ x us c1 y h1 q1 k1, ?_⟩, coArgs_ok hinv ts r vs' c2 l h3 q2 k2⟩
            rw [coU_agg t τ x c1 y q1]
            exact h2

theorem flat_plain {J : Nat → Option Obj} {ρ' : Nat → Place} : ∀ (τ : Ty) (x : τ.D) (vs : List Value), τ.plain = true → Flat I ρ τ x vs → Flat J ρ' τ x vs
  | .int _, _, _, _, h | .bool, _, _, _, h | .str, _, _, _, h | .nl, _, _, _, h | .nilp, _, _, _, h | .nilm, _, _, _, h | .nili, _, _, _, h | .nilf, _, _, _, h | .unit, _, _, _, h | .tag, _, _, _, h => h
  | .pair a b, x, vs, hp, h => by
    simp only [Ty.plain, Bool.and_eq_true] at hp
    obtain ⟨u, v, h1, h2, h3⟩ := h
    exact ⟨u, v, h1, flat_plain a _ u hp.1 h2, flat_plain b _ v hp.2 h3⟩
  | .arr n t, xs, vs, hp, h => ⟨h.1, flats_imp xs vs (fun x _ us hu => flat_plain t x us hp hu) h.2⟩
theorem val_plain {J : Nat → Option Obj} {ρ' : Nat → Place} {τ : Ty} {x : τ.D} {v : Value} (hp : τ.plain = true) (h : Val I ρ τ x v) : Val J ρ' τ x v := by
  obtain ⟨us, h1, h2⟩ := h
  exact ⟨us, flat_plain τ x us hp h1, h2⟩
theorem vals_plain {J : Nat → Option Obj} {ρ' : Nat → Place} : ∀ (l : List SV) (vs : List Value), (l.all fun s => s.1.plain) = true → Vals I ρ l vs → Vals J ρ' l vs
  | [], _, _, h => h
  | s :: l, vs, hp, h => by
    rw [List.all_cons, Bool.and_eq_true] at hp
    obtain ⟨v, vs', h1, h2, h3⟩ := h
    exact ⟨v, vs', h1, val_plain hp.1 h2, vals_plain l vs' hp.2 h3⟩
theorem avRel_plain {J : Nat → Option Obj} {ρ' : Nat → Place} {x : AV} {v : Value} (hp : x.plain = true) (h : AVRel I ρ x v) : AVRel J ρ' x v := by
  cases x with
  | v τ x => exact val_plain hp h
  | tup l => obtain ⟨vs, h1, h2⟩ := h; exact ⟨vs, h1, vals_plain l _ hp h2⟩
  | dead => trivial

/-- All that there is, lent. -/
theorem inv_lent (hinv : Inv B I ρ H w) : Inv { B with n0 := w.heap.size } (lent I ρ H w) (fun _ => .none) [] w := by
  refine ⟨fun k o hk => ?_, fun k o hk => ?_, hinv.frm, fun i o h => by simp at h, fun i o h => by simp at h, fun i j oi oj h => by simp at h, fun _ _ => rfl, hinv.os, hinv.tape, hinv.output, Nat.le_refl _⟩
  · by_cases h : OwnAt ρ H k
    · rw [lent_own h] at hk; exact hk
    · rw [lent_not h] at hk; exact hinv.imm k o hk
  · by_cases h : OwnAt ρ H k
    · obtain ⟨j, o', c, s, h1, h2, h3⟩ := h
      exact (hinv.sep j o' h1 h2 k c s h3).2.1
    · rw [lent_not h] at hk; exact hinv.dis k o hk

/-- And given back. -/
theorem inv_unlent (hinv : Inv B I ρ H w) {J : Nat → Option Obj} {w' : World} (hs : Sub (lent I ρ H w) J) (h : Inv { B with n0 := w.heap.size } J (fun _ => .none) [] w') : Inv B (unlent J ρ H) ρ H w' ∧ Sub I (unlent J ρ H) := by
  have hIJ : Sub I (unlent J ρ H) := by
    intro k o hk
    have hno : ¬ OwnAt ρ H k := by
      rintro ⟨j, o', c, s, h1, h2, h3⟩
      have := (hinv.sep j o' h1 h2 k c s h3).1
      rw [hk] at this
      cases this
    unfold unlent
    rw [if_neg hno]
    exact hs k o (by rw [lent_not hno]; exact hk)
  refine ⟨⟨fun k o hk => ?_, fun k o hk => ?_, h.frm, fun i o hi => ?_, fun i o hi hl k c s hb => ?_, hinv.inj, hinv.fresh, h.os, h.tape, h.output, Nat.le_trans hinv.size h.size⟩, hIJ⟩
  · unfold unlent at hk
    split at hk
    · cases hk
    · exact h.imm k o hk
  · unfold unlent at hk
    split at hk
    · cases hk
    · exact h.dis k o hk
  · cases hl : o.live with
    | false => cases o <;> first | trivial | (simp [HObj.live] at hl)
    | true =>
      refine hRel_keep hIJ (Agree.refl ρ) rfl (fun k c s hb => ?_) (hinv.own i o hi)
      have hown : OwnAt ρ H k := ⟨i, o, c, s, hi, hl, hb⟩
      have hlt := (hinv.sep i o hi hl k c s hb).2.2
      have hwk : w.heap[k]? = some w.heap[k] := Array.getElem?_eq_getElem hlt
      rw [hwk]
      exact h.imm k _ (hs k _ (by rw [lent_own hown]; exact hwk))
  · obtain ⟨s1, s2, s3⟩ := hinv.sep i o hi hl k c s hb
    refine ⟨?_, s2, Nat.lt_of_lt_of_le s3 h.size⟩
    unfold unlent
    rw [if_pos ⟨i, o, c, s, hi, hl, hb⟩]

theorem kill_none : ∀ (τ : Ty) (x : τ.D), killT (fun _ => false) τ x = x
  | .int _, _ | .bool, _ | .str, _ | .nl, _ | .nilp, _ | .nilm, _ | .nili, _ | .nilf, _ | .unit, _ | .tag, _ | .sl _, _ | .ptr _, _ => rfl
  | .pair a b, x => by
    show (killT _ a x.1, killT _ b x.2) = x
    rw [kill_none a, kill_none b]
  | .arr n t, xs => by
    show List.map (killT _ t) xs = xs
    rw [show killT (fun _ => false) t = id from funext fun y => kill_none t y]
    exact List.map_id xs
  | .ifc _ a, x => kill_none a x
  | .ref, r => by
    show Ref.kill _ r = r
    unfold Ref.kill
    have : r.hits (fun _ => false) = false := by cases r <;> simp [Ref.hits]
    rw [this]; rfl
theorem hkill_none (o : HObj) : o.kill (fun _ => false) = o := by
  cases o with
  | dead => rfl
  | var τ x t =>
    show HObj.var τ (killR _ τ x) t = _
    unfold killR
    rw [kill_none τ x]
    cases τ.refs <;> rfl
  | row τ xs t =>
    show HObj.row τ (cond τ.refs (xs.map (killT _ τ)) xs) t = _
    rw [show killT (fun _ => false) τ = id from funext fun y => kill_none τ y, List.map_id]
    cases τ.refs <;> rfl
  | map κ τ es =>
    show HObj.map κ τ (cond (κ.refs || τ.refs) (es.map fun e => (killT _ κ e.1, killT _ τ e.2)) es) = _
    have : (es.map fun e => (killT (fun _ => false) κ e.1, killT (fun _ => false) τ e.2)) = es := by
      conv => rhs; rw [← List.map_id es]
      exact List.map_congr_left fun e _ => by rw [kill_none, kill_none]; rfl
    rw [this]
    cases κ.refs || τ.refs <;> rfl
theorem map_kill_none (H : List HObj) : H.map (HObj.kill fun _ => false) = H := by
  rw [show HObj.kill (fun _ => false) = id from funext hkill_none, List.map_id]

/-- Where no reference is handed on, nothing is lent. -/
theorem coT_noIds {ρ' : Nat → Place} : ∀ (τ' τ : Ty) (x : τ.D) (us : List Value) (c : List Prop) (x' : τ'.D), Flat I ρ τ x us → coT H τ' τ x = (c, some x') → idsT τ x = [] → Flat I ρ' τ' x' us := by
  intro τ'
  induction τ' with
  | sl t iht =>
    intro τ x us c x' hf hco hn
    cases τ with
    | sl σ =>
      simp only [coT] at hco
      split at hco
      · rename_i h
        subst h
        cases hco
        exact flat_mono (Sub.refl I) (.sl σ) x us trivial hf
      · cases hco
    | nl =>
      simp only [coT] at hco
      cases hr : t.refs with
      | true => rw [hr] at hco; cases hco
      | false =>
        rw [hr] at hco
        cases hco
        simp only [Flat] at hf
        subst hf
        exact ⟨hr, none, 0, rfl, Nat.le_refl _, .inl rfl⟩
    | ref => cases x <;> first | (simp [coT] at hco; done) | (simp [idsT, Ref.ids] at hn)
    | _ => simp [coT] at hco
  | ptr t iht =>
    intro τ x us c x' hf hco hn
    cases τ with
    | ptr σ =>
      simp only [coT] at hco
      split at hco
      · rename_i h
        subst h
        cases hco
        exact flat_mono (Sub.refl I) (.ptr σ) x us trivial hf
      · cases hco
    | ref => cases x <;> first | (simp [coT] at hco; done) | (simp [idsT, Ref.ids] at hn)
    | _ => simp [coT] at hco
  | pair a b iha ihb =>
    intro τ x us c x' hf hco hn
    cases τ with
    | pair a' b' =>
      simp only [coT] at hco
      cases h1 : coT H a a' x.1 with
      | mk c1 q1 =>
        cases h2 : coT H b b' x.2 with
        | mk c2 q2 =>
          rw [h1, h2] at hco
          cases q1 with
          | none => cases q2 <;> simp at hco
          | some y =>
            cases q2 with
            | none => simp at hco
            | some z =>
              simp only at hco
              cases hco
              obtain ⟨u, v, rfl, f1, f2⟩ := hf
              have hn' : idsT a' x.1 ++ idsT b' x.2 = [] := hn
              rw [List.append_eq_nil_iff] at hn'
              exact ⟨u, v, rfl, iha a' x.1 u c1 y f1 h1 hn'.1, ihb b' x.2 v c2 z f2 h2 hn'.2⟩
    | _ => simp [coT] at hco
  | _ =>
    intro τ x us c x' hf hco hn
    simp only [coT] at hco
    unfold coE at hco
    split at hco
    · rename_i h
      subst h
      cases hr : Ty.refs _ with
      | true => rw [hr] at hco; cases hco
      | false =>
        rw [hr] at hco
        cases hco
        exact flat_mono (Sub.refl I) _ x us (names_norefs _ x hr) hf
    · cases hco
theorem coU_noIds {ρ' : Nat → Place} (τ' τ : Ty) (x : τ.D) (us : List Value) (c : List Prop) (x' : τ'.D) (hf : Flat I ρ τ x us) (h : coU H τ' τ x = (c, some x')) (hn : idsT τ x = []) : Flat I ρ' τ' x' us := by
  unfold coU at h
  split at h
  · rename_i e
    subst e
    cases hr : τ.refs with
    | true => rw [hr] at h; exact coT_noIds τ τ x us c x' hf h hn
    | false =>
      rw [hr] at h
      cases h
      exact flat_mono (Sub.refl I) τ x us (names_norefs τ x hr) hf
  · exact coT_noIds τ' τ x us c x' hf h hn
theorem idsR_nil {τ : Ty} {x : τ.D} (h : idsR τ x = []) : idsT τ x = [] := by
  unfold idsR at h
  cases hr : τ.refs with
  | true => rw [hr] at h; exact h
  | false => exact ids_norefs τ x hr
where
  ids_norefs : ∀ (τ : Ty) (x : τ.D), τ.refs = false → idsT τ x = []
    | .int _, _, _ | .bool, _, _ | .str, _, _ | .nl, _, _ | .nilp, _, _ | .nilm, _, _ | .nili, _, _ | .nilf, _, _ | .unit, _, _ | .tag, _, _ | .sl _, _, _ | .ptr _, _, _ => rfl
    | .pair a b, x, h => by
      simp only [Ty.refs, Bool.or_eq_false_iff] at h
      show idsT a x.1 ++ idsT b x.2 = []
      rw [ids_norefs a _ h.1, ids_norefs b _ h.2]; rfl
    | .arr n t, xs, h => by
      show List.flatMap (idsT t) xs = []
      rw [List.flatMap_eq_nil_iff]
      exact fun x _ => ids_norefs t x h
    | .ifc _ a, x, h => ids_norefs a x h
theorem coArgs_noIds {H : List HObj} {ρ' : Nat → Place} : ∀ (ts : List Ty) (args : List AV) (vs : List Value) (c : List Prop) (xs : List AV), AVs I ρ args vs → coArgs H ts args = (c, some xs) → AllP c → (args.all fun a => noIds a.ids) = true → AVs I ρ' xs vs
  | [], [], vs, c, xs, h, hco, _, _ => by cases hco; exact h
  | [], a :: r, vs, c, xs, h, hco, _, _ => by simp [coArgs] at hco
  | t :: ts, [], vs, c, xs, h, hco, _, _ => by simp [coArgs] at hco
  | t :: ts, .tup l :: r, vs, c, xs, h, hco, _, _ => by simp [coArgs] at hco
  | t :: ts, .dead :: r, vs, c, xs, h, hco, _, _ => by simp [coArgs] at hco
  | t :: ts, .v τ x :: r, vs, c, xs, h, hco, hc, hn => by
    obtain ⟨v, vs', rfl, ⟨us, h1, h2⟩, h3⟩ := h
    rw [List.all_cons, Bool.and_eq_true] at hn
    simp only [coArgs] at hco
    cases q1 : coU H t τ x with
    | mk c1 y =>
      cases q2 : coArgs H ts r with
      | mk c2 l =>
        rw [q1, q2] at hco
        cases y with
        | none => cases l <;> simp at hco
        | some y =>
          cases l with
          | none => simp at hco
          | some l =>
            simp only at hco
            cases hco
            obtain ⟨k1, k2⟩ := allP_app hc
            have hni : idsR τ x = [] := by
              have := hn.1
              show idsR τ x = []
              have h' : noIds (idsR τ x) = true := this
              unfold noIds at h'
              split at h'
              · assumption
              · cases h'
            refine ⟨v, vs', rfl, ⟨us, coU_noIds t τ x us c1 y h1 q1 (idsR_nil hni), ?_⟩, coArgs_noIds ts r vs' c2 l h3 q2 k2 hn.2⟩
            rw [coU_agg t τ x c1 y q1]
            exact h2

theorem namesAV_none {ρ' : Nat → Place} {x : AV} (h : NamesAV (fun b => small [] ρ b ≠ .none) x) : NamesAV (fun b => ρ' b = small [] ρ b) x := by
  have hf : ∀ b, small [] ρ b ≠ .none → ρ' b = small [] ρ b := fun b hb => absurd rfl hb
  cases x with
  | v τ x => exact names_imp hf τ x h
  | tup l => exact fun s hs => names_imp hf s.1 s.2 (h s hs)
  | dead => trivial
end
end Go.Proofs.Ytdjdbjcapenjeaa.Dx

/- The run on abstract values is sound. -/
namespace Go.Proofs.Ytdjdbjcapenjeaa.Dx
open Go Go.RowKit
set_option linter.unusedVariables false
set_option linter.unusedSimpArgs false

structure TRel (I : Nat → Option Obj) (ρ : Nat → Place) (T : List AV) (a : Act) : Prop where
  size : T.length = a.tmps.size
  defs : a.defers = []
  val : ∀ i, AVRel I ρ (T.getD i .dead) (a.tmps.getD i undef)

/-- What was there when the function was entered. -/
structure En where
  B : Base
  I : Nat → Option Obj
  H : List HObj
  ρ : Nat → Place

def Good (E : En) (s : St) (a : Act) (w : World) : Prop := ∃ I ρ, Sub E.I I ∧ TRel I ρ s.T a ∧ Inv E.B I ρ s.H w ∧ Kept E.H E.ρ s.H ρ
def Lift (E : En) (R : St → Prop) (a : Act) (w : World) : Prop := ∃ s, R s ∧ Good E s a w

section
variable {I : Nat → Option Obj} {ρ : Nat → Place} {w : World} {P : Program} {C : Ctx} {E : En}

theorem evT_ok {T : List AV} {a : Act} (h : TRel I ρ T a) (x : Operand) : AVRel I ρ (evT T x) (a.eval x) := by
  cases x with
  | tmp t => exact h.val t
  | const v =>
    show AVRel I ρ (constAV v) v
    unfold constAV
    split
    · exact val_bool.2 rfl
    · exact val_int.2 rfl
    · exact val_str.2 rfl
    · exact val_mk rfl rfl
    · exact val_mk rfl rfl
    · exact val_mk rfl rfl
    · exact val_mk rfl rfl
    · exact val_mk rfl rfl
    · trivial
  | global g => trivial
  | func f => exact ref_mk ⟨#[], rfl, rfl⟩

theorem tRel_put {T : List AV} {a : Act} (h : TRel I ρ T a) (d : Option Nat) {x : AV} {v : Value} (hx : AVRel I ρ x v) : TRel I ρ (putT T d x) (a.put d v) := by
  cases d with
  | none => exact h
  | some d =>
    refine ⟨by simp [putT, Act.put, h.size], h.defs, fun i => ?_⟩
    show AVRel I ρ ((T.set d x).getD i .dead) ((a.tmps.setIfInBounds d v).getD i undef)
    rw [List.getD_eq_getElem?_getD, List.getElem?_set, Array.getD_eq_getD_getElem?, Array.getElem?_setIfInBounds]
    by_cases hdi : d = i
    · subst hdi
      rw [if_pos rfl, if_pos rfl]
      by_cases hl : d < T.length
      · rw [if_pos hl, if_pos (by rw [← h.size]; exact hl)]; exact hx
      · rw [if_neg hl, if_neg (by rw [← h.size]; exact hl)]; trivial
    · rw [if_neg hdi, if_neg hdi]
      have := h.val i
      rw [List.getD_eq_getElem?_getD, Array.getD_eq_getD_getElem?] at this
      exact this

theorem tRel_keep {J : Nat → Option Obj} {ρ' : Nat → Place} (hI : Sub I J) (ha : Agree ρ ρ') {T : List AV} {a : Act} (h : TRel I ρ T a) : TRel J ρ' T a :=
  ⟨h.size, h.defs, fun i => avRel_keep hI ha (h.val i)⟩

theorem getD_map_dead (f : AV → AV) (hf : f .dead = .dead) (T : List AV) (i : Nat) : (T.map f).getD i .dead = f (T.getD i .dead) := by
  rw [List.getD_eq_getElem?_getD, List.getD_eq_getElem?_getD, List.getElem?_map]
  cases T[i]? <;> simp [hf]

/-- References that are struck, where others have moved. -/
theorem tRel_kill {ρ' : Nat → Place} {J : Nat → Option Obj} (hI : Sub I J) (p : Nat → Bool) (hp : ∀ b, p b = false → ρ b ≠ .none → ρ' b = ρ b) {T : List AV} {a : Act} (h : TRel I ρ T a) : TRel J ρ' (T.map (AV.kill p)) a := by
  refine ⟨by rw [List.length_map]; exact h.size, h.defs, fun i => ?_⟩
  rw [getD_map_dead _ rfl]
  have h1 := avRel_kill (p := p) (h.val i)
  refine avRel_mono hI ?_ h1
  have h2 := namesAV_kill p (T.getD i .dead)
  have h3 := avRel_used h1
  revert h2 h3
  generalize (T.getD i AV.dead).kill p = x
  intro h2 h3
  cases x with
  | v τ x => exact names_imp (fun b hb => hp b hb.1 hb.2) τ x (names_and τ x h2 h3)
  | tup l => exact fun s hs => names_imp (fun b hb => hp b hb.1 hb.2) s.1 s.2 (names_and s.1 s.2 (h2 s hs) (h3 s hs))
  | dead => trivial

theorem kept_step {H H' : List HObj} {ρ' : Nat → Place} (h : Kept E.H E.ρ H ρ) (hl : H.length ≤ H'.length) (hr : ∀ i, i < H.length → rowAt H' i = rowAt H i) (hs : ∀ i, i < H.length → rowAt H i = false → ρ' i = ρ i) : Kept E.H E.ρ H' ρ' :=
  h.trans ⟨hl, fun i hi h0 => (hr i hi).trans h0, hs⟩

theorem rowAt_set {H : List HObj} {b : Nat} {o o' : HObj} (hb : H[b]? = some o) (h : o'.isRow = o.isRow) (i : Nat) : rowAt (H.set b o') i = rowAt H i := by
  unfold rowAt
  rw [List.getElem?_set]
  by_cases e : b = i
  · subst e
    rw [if_pos rfl, if_pos (List.getElem?_eq_some_iff.1 hb).1, hb]
    exact h
  · rw [if_neg e]
theorem rowAt_append {H : List HObj} {o : HObj} {i : Nat} (h : i < H.length) : rowAt (H ++ [o]) i = rowAt H i := by
  unfold rowAt
  rw [List.getElem?_append_left h]

/-- A call, walked by a contract. -/
theorem call_ok {callF : FuncId → CF} (hF : ∀ g, SoundF P g (callF g)) (hP : ∀ g ts F, C.pur g = some (ts, F) → SoundP P g F) {s : St} {a : Act} {w : World} (hI : Sub E.I I) (hT : TRel I ρ s.T a) (hinv : Inv E.B I ρ s.H w) (hk : Kept E.H E.ρ s.H ρ) {κ : St → Prop} {d : Option Nat} {f : FuncId} {args : List AV} {vals : Array Value}
    (hargs : AVs I ρ args vals.toList) (h : runEff C callF d (.call f args) s κ) :
    Calls P f vals w fun e w' => ∃ v, e = .returned v ∧ Lift E κ (a.put d v) w' := by
  simp only [runEff] at h
  cases hpur : C.pur f with
  | some q =>
    obtain ⟨ts, F⟩ := q
    rw [hpur] at h
    simp only at h
    cases hco : coArgs s.H ts args with
    | mk c xs =>
      rw [hco] at h
      cases xs with
      | none => exact h.elim
      | some xs =>
        simp only at h
        cases hb : ((args.all fun a => noIds a.ids) || (F xs).2.plain) with
        | false => rw [hb] at h; exact h.elim
        | true =>
          rw [hb, cond_true] at h
          obtain ⟨h1, h2⟩ := all_split h
          obtain ⟨h3, h4⟩ := all_split h2
          have hsp := hP f ts F hpur
          cases hpl : (F xs).2.plain with
          | true =>
            have hl := inv_lent hinv
            refine (hsp xs h3 _ _ _ w vals hl (coArgs_ok hinv ts args _ c xs hargs hco h1)).mono ?_
            rintro e w' ⟨v, J, rfl, hs, hv, hj⟩
            obtain ⟨g1, g2⟩ := inv_unlent hinv hs hj
            refine ⟨v, rfl, ⟨putT s.T d (F xs).2, s.H⟩, h4, unlent J ρ s.H, ρ, hI.trans g2, tRel_put (tRel_keep g2 (Agree.refl ρ) hT) d (avRel_plain hpl hv), g1, hk⟩
          | false =>
            rw [hpl, Bool.or_false] at hb
            have hnone := coArgs_noIds (ρ' := small [] ρ) ts args _ c xs hargs hco h1 hb
            have hsm := inv_small hinv (l := []) List.nodup_nil rfl
            refine (hsp xs h3 _ I _ w vals hsm hnone).mono ?_
            rintro e w' ⟨v, J, rfl, hs, hv, hj⟩
            obtain ⟨g1, g2, g3⟩ := inv_back hinv (l := []) List.nodup_nil rfl hs hj (Kept.refl _ _) (rows := fun _ => false) (fun _ => rfl) (lone := true) (fun _ o ho => by cases ho)
            have hst : setAll (s.H.map (HObj.kill fun _ => false)) [] (([] : List HObj).map (HObj.ren (backN [] s.H.length))) = s.H := by
              show s.H.map (HObj.kill fun _ => false) = s.H
              exact map_kill_none s.H
            rw [cond_true] at g1 g2
            simp only [List.take_nil] at g1 g2
            rw [hst] at g1 g2
            have hagree : Agree ρ (after [] s.H.length true ρ (small [] ρ)) := fun b hb => g3 b rfl hb
            refine ⟨v, rfl, ⟨putT s.T d (F xs).2, s.H⟩, h4, J, _, hI.trans hs, tRel_put (tRel_keep hs hagree hT) d (avRel_mono (Sub.refl J) ?_ hv), g1, hk.trans g2⟩
            have := avRel_used hv
            exact namesAV_none this
  | none =>
    rw [hpur] at h
    simp only at h
    generalize hl : reach s.H 4 (addTo [] (args.flatMap AV.ids)) = l at h
    cases hsh : (shut s.H l && args.all fun a => a.ids.all fun b => memb b l) with
    | false => rw [hsh] at h; exact h.elim
    | true =>
      rw [hsh, cond_true] at h
      rw [Bool.and_eq_true] at hsh
      have hnd : l.Nodup := by rw [← hl]; exact reach_nodup _ _ _ (addTo_nodup _ _ List.nodup_nil)
      have hargs' : AVs I (small l ρ) (args.map (AV.ren fun b => place b l)) vals.toList :=
        avs_ren _ (Sub.refl I) args _ (fun x hx => namesAV_of_ids x fun b hb => by
          have h1 := List.all_eq_true.1 hsh.2 x hx
          exact small_place (memb_iff.1 (List.all_eq_true.1 h1 b hb))) hargs
      refine (hF f _ _ _ h _ _ _ w vals (inv_small hinv hnd hsh.1) hargs').mono ?_
      rintro e w' ⟨r, v, Hs, J, ρc, rfl, hκ, hs, hv, hj, hkc⟩
      obtain ⟨g1, g2, g3⟩ := inv_back hinv hnd hsh.1 hs hj hkc (rows := fun b => memb b l && rowAt s.H b) (fun _ => rfl)
        (lone := (r.ids.all fun b => Nat.blt b l.length) && (Hs.take l.length).all fun o => o.ids.all fun b => Nat.blt b l.length)
        (fun h o ho b hb => by
          rw [Bool.and_eq_true] at h
          exact Nat.le_of_ble_eq_true (show Nat.ble (b + 1) l.length = true from List.all_eq_true.1 (List.all_eq_true.1 h.2 o ho) b hb))
      refine ⟨v, rfl, _, hκ, J, _, hI.trans hs, tRel_put (tRel_kill hs _ g3 hT) d (avRel_ren _ (namesAV_of_ids r fun b hb => ?_) (Sub.refl J) hv), g1, hk.trans g2⟩
      have hlt : ∀ b ∈ l, b < s.H.length := by
        intro b hb
        have := List.all_eq_true.1 hsh.1 b hb
        rw [Bool.and_eq_true] at this
        exact Nat.le_of_ble_eq_true (show Nat.ble (b + 1) s.H.length = true from this.1)
      refine after_back hnd hlt fun h => ?_
      rw [Bool.and_eq_true] at h
      exact Nat.le_of_ble_eq_true (show Nat.ble (b + 1) l.length = true from List.all_eq_true.1 h.1 b hb)
end
end Go.Proofs.Ytdjdbjcapenjeaa.Dx

/- The run on abstract values is sound: statements, loops, functions. -/
namespace Go.Proofs.Ytdjdbjcapenjeaa.Dx
open Go Go.RowKit
set_option linter.unusedVariables false
set_option linter.unusedSimpArgs false
section
variable {I : Nat → Option Obj} {ρ : Nat → Place} {w : World} {P : Program} {C : Ctx} {E : En}

theorem tup_nil : AVRel I ρ (.tup []) undef := ⟨#[], rfl, rfl⟩

theorem runEff_ok (hTab : TabOK C P) {callF : FuncId → CF} (hF : ∀ g, SoundF P g (callF g)) (hP : ∀ g ts F, C.pur g = some (ts, F) → SoundP P g F) {s : St} {a : Act} {w : World} (hg : Good E s a w) (o : Oper) {κ : St → Prop}
    (h : runEff C callF o.dst (opEff C (evT s.T) s.H o.op) s κ) (Q : Exit → Act → World → Prop) : o.wp P a w (Lift E κ) Q := by
  obtain ⟨I, ρ, hI, hT, hinv, hk⟩ := hg
  have heff := op_eff hTab hinv (fun x => evT_ok hT x) o
  unfold Oper.wp
  generalize opEff C (evT s.T) s.H o.op = e at h heff
  cases e with
  | bad => exact h.elim
  | val p =>
    obtain ⟨h1, h2⟩ := all_split h
    obtain ⟨v, h3, h4⟩ := heff h1
    rw [h3]
    exact ⟨_, h2, I, ρ, hI, tRel_put hT o.dst h4, hinv, hk⟩
  | imm c x =>
    obtain ⟨h1, h2⟩ := all_split h
    obtain ⟨v, w', J, h3, h4, h5, h6⟩ := heff h1
    rw [h3]
    exact ⟨_, h2, J, ρ, hI.trans h4, tRel_put (tRel_keep h4 (Agree.refl ρ) hT) o.dst h6, h5, hk⟩
  | new c v ob =>
    obtain ⟨h1, h2⟩ := all_split h
    obtain ⟨x, w', pl, h3, g1, g2, g3, g4, g5⟩ := heff h1 s.H.length (hinv.fresh _ (Nat.le_refl _))
    rw [h3]
    exact ⟨_, h2, I, _, hI, tRel_put (tRel_keep (Sub.refl I) (agree_new hinv pl) hT) o.dst g5, hinv.new g2 g1 g3 g4, kept_step hk (by simp) (fun i hi => rowAt_append hi) (fun i hi _ => upd_ne _ _ (by omega))⟩
  | set c b o' =>
    obtain ⟨h1, h2⟩ := all_split h
    obtain ⟨w', h3, h4, o2, h5, h6⟩ := heff h1
    rw [h3]
    exact ⟨_, h2, I, ρ, hI, tRel_put hT o.dst tup_nil, h4, kept_step hk (by simp) (fun i _ => rowAt_set h5 h6 i) (fun _ _ _ => rfl)⟩
  | app c b o' n =>
    obtain ⟨h1, h2⟩ := all_split h
    obtain ⟨u, w', ρ', h3, h4, h5, h6, τ, xs, t, h7, h8⟩ := heff h1
    rw [h3]
    refine ⟨_, h2, I, ρ', hI, tRel_put (tRel_kill (Sub.refl I) _ (fun k hk _ => h4 k fun e => by subst e; simp at hk) hT) o.dst (ref_mk h5), h6, kept_step hk (by simp) (fun i hi => ?_) (fun i hi hr => h4 i fun e => ?_)⟩
    · have hkb : (s.H.map (HObj.kill (Nat.beq b)))[b]? = some ((HObj.row τ xs t).kill (Nat.beq b)) := by rw [List.getElem?_map, h7]; rfl
      rw [rowAt_set hkb (by rw [h8]; rfl), rowAt_map _ (isRow_kill _)]
    · subst e
      unfold rowAt at hr
      rw [h7] at hr
      cases hr
  | call f args =>
    obtain ⟨vals, h3, h4⟩ := heff
    rw [h3]
    refine (call_ok hF hP hI hT hinv hk h4 h).mono ?_
    rintro e w' ⟨v, rfl, hl⟩
    exact hl

theorem yielded_of {ops : Array Oper} {a : Act} {T : List AV} {j g : Nat} {b : Bool} (h : TRel I ρ T a) (hg : guardOf ops j = some g) (hb : T.getD g .dead = .v .bool b) : yielded ops a.tmps j = some b := by
  have h1 := h.val g
  rw [hb] at h1
  have h2 := bool_of h1
  unfold guardOf at hg
  have hg' : (ops[j]?).bind (·.dst) = some g := by rw [← Array.getElem?_toList]; exact hg
  unfold yielded
  rw [hg']
  rw [Array.getD_eq_getD_getElem?] at h2
  cases hq : a.tmps[g]? with
  | none => rw [hq] at h2; cases h2
  | some v => rw [hq] at h2; cases h2; simp [hq]
theorem yielded_none {ops : Array Oper} {a : Act} {T : List AV} {j g : Nat} (h : TRel I ρ T a) (hg : guardOf ops j = some g) (hb : T.getD g .dead = .tup []) : yielded ops a.tmps j = none := by
  have h1 := h.val g
  rw [hb] at h1
  obtain ⟨vs, h2, _⟩ := h1
  unfold guardOf at hg
  have hg' : (ops[j]?).bind (·.dst) = some g := by rw [← Array.getElem?_toList]; exact hg
  unfold yielded
  rw [hg']
  rw [Array.getD_eq_getD_getElem?] at h2
  cases hq : a.tmps[g]? with
  | none => simp [hq]
  | some v => rw [hq] at h2; simp at h2; subst h2; simp [hq]

theorem set_guard {T : List AV} {a : Act} (h : TRel I ρ T a) {g : Nat} {b : Bool} (hb : T.getD g .dead = .v .bool b) : TRel I ρ (T.set g (.v .bool b)) a := by
  refine ⟨by rw [List.length_set]; exact h.size, h.defs, fun i => ?_⟩
  have : (T.set g (.v .bool b)).getD i .dead = T.getD i .dead := by
    rw [List.getD_eq_getElem?_getD, List.getElem?_set]
    split
    · rename_i e
      subst e
      split
      · rw [hb]; rfl
      · rename_i hl
        rw [List.getD_eq_getElem?_getD, List.getElem?_eq_none (by omega)]
    · rw [List.getD_eq_getElem?_getD]
  rw [this]
  exact h.val i

/-- A part of a row. -/
theorem flats_cut {α : Type} {R : α → List Value → Prop} {s : Nat} (hR : ∀ x vs, R x vs → vs.length = s) : ∀ (xs : List α) (us : List Value) (off len : Nat), Flats R xs us → off + len ≤ xs.length →
    ∃ p m q, us = p ++ m ++ q ∧ p.length = off * s ∧ m.length = len * s ∧ Flats R ((xs.drop off).take len) m
  | xs, us, 0, 0, h, _ => ⟨[], [], us, by simp, by simp, by simp, by simp [Flats]⟩
  | [], us, off + 1, len, h, hl => by simp at hl
  | [], us, 0, len + 1, h, hl => by simp at hl
  | x :: xs, us, off + 1, len, h, hl => by
    obtain ⟨u, v, rfl, h1, h2⟩ := h
    obtain ⟨p, m, q, rfl, e1, e2, e3⟩ := flats_cut hR xs v off len h2 (by simp only [List.length_cons] at hl; omega)
    exact ⟨u ++ p, m, q, by simp, by rw [List.length_append, hR _ _ h1, e1, Nat.succ_mul]; omega, e2, by simpa using e3⟩
  | x :: xs, us, 0, len + 1, h, hl => by
    obtain ⟨u, v, rfl, h1, h2⟩ := h
    obtain ⟨p, m, q, rfl, e1, e2, e3⟩ := flats_cut hR xs v 0 len h2 (by simp only [List.length_cons] at hl; omega)
    have hp : p = [] := by apply List.eq_nil_of_length_eq_zero; rw [e1]; simp
    subst hp
    exact ⟨[], u ++ m, q, by simp, by simp, by rw [List.length_append, hR _ _ h1, e2, Nat.succ_mul]; omega, u, m, rfl, h1, by simpa using e3⟩

theorem thawC_mem {b : Nat} {τ : Ty} {xs : List τ.D} : ∀ {T : List AV} {i : Nat}, AllP (thawC b τ xs T) → AllP (thaw b τ xs (T.getD i .dead)).1
  | [], i, _ => by simp [thaw, AllP]
  | x :: r, 0, h => (allP_app h).1
  | x :: r, i + 1, h => by simpa using thawC_mem (T := r) (i := i) (allP_app h).2
/-- One operation after the other. -/
theorem frz_ok {s : St} {a : Act} {w : World} {d : Nat} {κ : St → Prop} (hg : Good E s a w) (h : frzS d κ s) : ∃ s', κ s' ∧ Good E s' a w := by
  unfold frzS at h
  split at h
  · rename_i b off0 len0 hd
    split at h
    · rename_i τ xs t hb
      cases hq : (τ.refs || Nat.beq τ.size 0) with
      | true => rw [hq] at h; exact h.elim
      | false =>
        rw [hq, cond_false] at h
        rw [Bool.or_eq_false_iff] at hq
        obtain ⟨hcs, hκ⟩ := all_split h
        refine ⟨_, hκ, ?_⟩
        obtain ⟨I, ρ, hI, hT, hinv, hk⟩ := hg
        have hrow := hinv.own b _ hb
        have hbl : b < s.H.length := (List.getElem?_eq_some_iff.1 hb).1
        -- the block's cells, if it has any
        have key : ∃ J, Sub I J ∧ (∀ g, I g = none → J g ≠ none → ∃ c sz, ρ b = .blk g c sz ∧ J g = w.heap[g]?) ∧ ∀ off len v, RefRel ρ (.sl b off len) v → off + len ≤ xs.length → Flat J ρ (.sl τ) ((xs.drop off).take len) [v] := by
          rcases hrow with ⟨h1, rfl⟩ | ⟨g, c, us, spare, h1, h2, h3, h4, h5⟩
          · refine ⟨I, Sub.refl I, fun g h h' => absurd h h', fun off len v hrf hle => ?_⟩
            simp only [RefRel, h1] at hrf
            obtain ⟨rfl, rfl, h6⟩ := hrf
            exact ⟨hq.1, none, 0, by rw [h6]; rfl, by simp, .inl (by simp)⟩
          · obtain ⟨t1, t2, t3⟩ := hinv.sep b _ hb rfl g c τ.size h1
            refine ⟨fun k => if k = g then w.heap[g]? else I k, ?_, ?_, fun off len v hrf hle => ?_⟩
            · intro k o hko
              have : k ≠ g := fun e => by rw [e, t1] at hko; cases hko
              simp [this, hko]
            · intro k hk1 hk2
              by_cases e : k = g
              · subst e; exact ⟨c, τ.size, h1, by simp⟩
              · simp only [e, if_false] at hk2; exact absurd hk1 hk2
            · simp only [RefRel, h1] at hrf
              obtain ⟨A, g1, g2, g3, g4, g5⟩ := hrf
              have hlen : ((xs.drop off).take len).length = len := by simp; omega
              refine ⟨hq.1, some A, c - off, by rw [g2, hlen], by rw [hlen]; omega, ?_⟩
              by_cases hl0 : len = 0
              · subst hl0; exact .inl (by simp)
              · right
                obtain ⟨p1, m1, q1, e1, e2, e3, e4⟩ := flats_cut (fun x vs h => flat_length τ x vs h) xs us off len h5 hle
                refine ⟨A, m1, rfl, g4, ⟨(us ++ spare).toArray, t, (0, 0), p1, q1 ++ spare, by rw [g3]; simp [h2], by simp [e1], by rw [e2, g5 (by omega)]⟩, flats_imp _ _ (fun x hx us hu => flat_mono (fun k o hko => ?_) τ x us (names_norefs τ x hq.1) hu) e4⟩
                have : k ≠ g := fun e => by rw [e, t1] at hko; cases hko
                simp [this, hko]
        obtain ⟨J, hs, hJ, hflat⟩ := key
        have hJ' : ∀ g o, J g = some o → I g = some o ∨ ∃ c sz, ρ b = .blk g c sz ∧ w.heap[g]? = some o := by
          intro g o hgo
          cases he : I g with
          | some o' => left; rw [hs g o' he] at hgo; exact hgo
          | none =>
            obtain ⟨c, sz, e1, e2⟩ := hJ g he (by rw [hgo]; simp)
            exact .inr ⟨c, sz, e1, by rw [← e2, hgo]⟩
        refine ⟨J, ρ, hI.trans hs, ?_, ?_, ?_⟩
        · have h2 := tRel_kill (ρ' := ρ) hs (Nat.beq b) (fun _ _ _ => rfl) hT
          refine ⟨by rw [List.length_map]; exact hT.size, hT.defs, fun i => ?_⟩
          rw [getD_map_dead _ rfl]
          have g1 := thawC_mem (i := i) hcs
          have g2 := h2.val i
          rw [getD_map_dead _ rfl] at g2
          have g3 := hT.val i
          revert g1 g2 g3
          generalize s.T.getD i AV.dead = x
          intro g1 g2 g3
          unfold thaw at g1 ⊢
          split at g1
          · rename_i c off len
            cases hbc : Nat.beq b c with
            | true =>
              have e := Nat.eq_of_beq_eq_true hbc
              subst e
              rw [hbc] at g1
              exact val_mk rfl (hflat off len _ (ref_of g3) g1.1)
            | false =>
              have e : AV.kill (Nat.beq b) (.v .ref (.sl c off len)) = .v .ref (.sl c off len) := by
                show AV.v Ty.ref (cond (Nat.beq b c) Ref.dead (Ref.sl c off len)) = _
                rw [hbc]; rfl
              rw [e] at g2
              simpa [hbc] using g2
          · simpa using g2
        · have hst := hinv.strike (Nat.beq b)
          refine ⟨fun g o hg => ?_, fun g o hg => ?_, hinv.frm, fun i o hi => ?_, fun i o hi hl g c sz hb' => ?_, fun i j oi oj hi hj li lj g c s c' s' hbi hbj => ?_, fun i hi => hinv.fresh i (by simpa using hi), hinv.os, hinv.tape, hinv.output, hinv.size⟩
          · rcases hJ' g o hg with h | ⟨c, sz, _, h⟩
            · exact hinv.imm g o h
            · exact h
          · rcases hJ' g o hg with h | ⟨c, sz, h, _⟩
            · exact hinv.dis g o h
            · exact (hinv.sep b _ hb rfl g c sz h).2.1
          · rcases getElem?_set_some hi with ⟨hne, hi⟩ | ⟨rfl, rfl, _⟩
            · exact hRel_keep hs (Agree.refl ρ) rfl (fun _ _ _ _ => rfl) (hst.own i o hi)
            · trivial
          · rcases getElem?_set_some hi with ⟨hne, hi⟩ | ⟨rfl, rfl, _⟩
            · obtain ⟨s1, s2, s3⟩ := hst.sep i o hi hl g c sz hb'
              refine ⟨?_, s2, s3⟩
              cases hJg : J g with
              | none => rfl
              | some o' =>
                rcases hJ' g o' hJg with h | ⟨c', sz', h, _⟩
                · rw [s1] at h; cases h
                · rw [List.getElem?_map] at hi
                  obtain ⟨y, hy, rfl⟩ := Option.map_eq_some_iff.1 hi
                  rw [live_kill] at hl
                  exact absurd (hinv.inj i b y _ hy hb hl rfl g c sz c' sz' hb' h) hne
            · cases hl
          · rcases getElem?_set_some hi with ⟨hni, hi'⟩ | ⟨rfl, rfl, _⟩ <;> rcases getElem?_set_some hj with ⟨hnj, hj'⟩ | ⟨rfl, rfl, _⟩
            · exact hst.inj i j oi oj hi' hj' li lj g c s c' s' hbi hbj
            · cases lj
            · cases li
            · rfl
        · refine hk.trans ⟨by simp, fun i hi hr => ?_, fun _ _ _ => rfl⟩
          unfold rowAt
          rw [List.getElem?_set]
          by_cases e : b = i
          · rw [if_pos e, if_pos (by simpa using hbl)]; rfl
          · rw [if_neg e, List.getElem?_map]
            unfold rowAt at hr
            revert hr
            cases s.H[i]? with
            | none => exact fun _ => rfl
            | some y => exact fun hr => (isRow_kill _ _).trans hr
    · exact h.elim
  · exact ⟨s, h, hg⟩
theorem ghost_ok {s s' : St} {a : Act} {w : World} : ∀ (g : List Gst), ghosts g s = some s' → Good E s a w → Good E s' a w := by
  intro g
  induction g generalizing s with
  | nil => intro h hg; cases h; exact hg
  | cons x r ih =>
    intro h hg
    simp only [ghosts] at h
    split at h
    · rename_i s1 h1
      refine ih h ?_
      cases x with
      | own k τ t =>
        simp only [ghost1] at h1
        split at h1
        · rename_i hk1
          cases h1
          obtain ⟨I, ρ, hI, hT, hinv, hk⟩ := hg
          have hv := hT.val k
          rw [hk1] at hv
          have hnl := nl_of hv
          have hag := agree_new hinv .nil
          refine ⟨I, upd ρ s.H.length .nil, hI, ?_, hinv.new (pl := .nil) (Moved.refl w _) (by simp) (fun g c s h => by cases h) (.inl ⟨upd_same _ _ _, rfl⟩), kept_step hk (by simp) (fun i hi => rowAt_append hi) (fun i hi hr => upd_ne _ _ (by omega))⟩
          have h2 := tRel_keep (Sub.refl I) hag hT
          refine ⟨by rw [List.length_set]; exact h2.size, h2.defs, fun i => ?_⟩
          rw [List.getD_eq_getElem?_getD, List.getElem?_set]
          split
          · rename_i e
            subst e
            split
            · show AVRel I _ (.v .ref (.sl s.H.length 0 0)) _
              rw [hnl]
              exact ref_mk (by simp [RefRel, upd_same])
            · trivial
          · have := h2.val i
            rw [List.getD_eq_getElem?_getD] at this
            exact this
        · cases h1
      | fld d k off τ t =>
        simp only [ghost1] at h1
        split at h1
        · rename_i σ x hd
          split at h1
          · rename_i u hk1
            split at h1
            · rename_i σ' x' hs
              cases h1
              obtain ⟨I, ρ, hI, hT, hinv, hk⟩ := hg
              have hag := agree_new hinv .nil
              refine ⟨I, upd ρ s.H.length .nil, hI, ?_, hinv.new (pl := .nil) (Moved.refl w _) (by simp) (fun g c s h => by cases h) (.inl ⟨upd_same _ _ _, rfl⟩), kept_step hk (by simp) (fun i hi => rowAt_append hi) (fun i hi hr => upd_ne _ _ (by omega))⟩
              have h2 := tRel_keep (Sub.refl I) hag hT
              refine ⟨by rw [List.length_set]; exact h2.size, h2.defs, fun i => ?_⟩
              rw [List.getD_eq_getElem?_getD, List.getElem?_set]
              split
              · rename_i e
                subst e
                split
                · have hv := h2.val d
                  rw [hd] at hv
                  obtain ⟨us, hf, ha⟩ := hv
                  obtain ⟨pre, mid, post, hus, hl, hm⟩ := getK_flat σ x k off us _ _ hk1 hf
                  have hmid : mid = [.slice none 0 0] := hm
                  have hms : Flat I (upd ρ s.H.length .nil) .ref (.sl s.H.length 0 0) [.slice none 0 0] := ⟨_, rfl, by simp [RefRel, upd_same]⟩
                  obtain ⟨⟨pre2, mid2, post2, he, hl2, hm2, hf2⟩, _, hag2⟩ := setK_flat σ x k off us .ref (.sl s.H.length 0 0) [.slice none 0 0] σ' x' hf hms hs
                  have e1 : pre2 = pre := by
                    have := congrArg (List.take off) (hus.symm.trans he)
                    rw [List.append_assoc, List.take_left' (by omega), List.append_assoc, List.take_left' hl2] at this
                    exact this.symm
                  subst e1
                  have e2 : mid ++ post = mid2 ++ post2 := by
                    have := hus.symm.trans he
                    rw [List.append_assoc, List.append_assoc] at this
                    exact List.append_cancel_left this
                  obtain ⟨rfl, rfl⟩ := List.append_inj e2 (by rw [hm2, hmid])
                  rw [hmid] at hus
                  show AVRel I _ (.v σ' x') _
                  refine ⟨us, by rw [hus]; exact hf2, ?_⟩
                  rw [hag2]
                  exact ha
                · trivial
              · have := h2.val i
                rw [List.getD_eq_getElem?_getD] at this
                exact this
            · cases h1
          · cases h1
        · cases h1
    · cases h

theorem frzK_ok {s : St} {a : Act} {w : World} {d : Option Nat} {κ : St → Prop} (hg : Good E s a w) (h : frzK C d κ s) : ∃ s', κ s' ∧ Good E s' a w := by
  unfold frzK at h
  split at h
  · rename_i d
    split at h
    · rename_i τ t _
      split at h
      · rename_i s' hs
        exact ⟨s', h, ghost_ok _ hs hg⟩
      · exact ⟨s, h, hg⟩
    · split at h
      · cases hm : memb d C.frz with
        | true => rw [hm] at h; exact frz_ok hg h
        | false => rw [hm] at h; exact ⟨s, h, hg⟩
      · split at h
        · rename_i s' hs
          exact ⟨s', h, ghost_ok _ hs hg⟩
        · exact ⟨s, h, hg⟩
  · exact ⟨s, h, hg⟩

/-- One operation after the other. -/
theorem runOps_ok (hTab : TabOK C P) {callF : FuncId → CF} (hF : ∀ g, SoundF P g (callF g)) (hP : ∀ g ts F, C.pur g = some (ts, F) → SoundP P g F) (ops : Array Oper) {κ : St → Prop} {Q : Exit → Act → World → Prop} (hQ : ∀ a w, Lift E κ a w → Q .normal a w) :
    ∀ (r : List Oper) (i : Nat) (s : St) (a : Act) (w : World), ops.toList.drop i = r → Good E s a w → runOps C callF ops κ r s → wpOps P ops Q (List.range' i r.length) a w
  | [], i, s, a, w, _, hg, h => hQ a w ⟨s, h, hg⟩
  | o :: r, i, s, a, w, hd, hg, h => by
    have hi : ops[i]? = some o := by
      rw [← Array.getElem?_toList]
      have := List.getElem?_drop (xs := ops.toList) (i := i) (j := 0)
      rw [hd] at this
      simpa using this.symm
    have hd' : ops.toList.drop (i + 1) = r := by
      rw [← List.drop_drop, hd]
      rfl
    have ih := fun s' a' w' => runOps_ok hTab hF hP ops hQ r (i + 1) s' a' w' hd'
    have step : ∀ (s : St), Good E s a w → runEff C callF o.dst (opEff C (evT s.T) s.H o.op) s (frzK C o.dst (runOps C callF ops κ r)) → Region.wanted o (yielded ops a.tmps) = true → wpOps P ops Q (i :: List.range' (i + 1) r.length) a w := by
      intro s hg h hw
      have := runEff_ok (E := E) hTab hF hP hg o h Q
      simp only [wpOps, hi, hw, if_true]
      refine .inl (Oper.wp_mono ?_ this)
      rintro a' w' ⟨s', h1, h2⟩
      obtain ⟨s2, h3, h4⟩ := frzK_ok h2 h1
      exact ih s2 a' w' h4 h3
    have skip : ∀ (s : St), Good E s a w → runOps C callF ops κ r ⟨putT s.T o.dst (.tup []), s.H⟩ → Region.wanted o (yielded ops a.tmps) = false → wpOps P ops Q (i :: List.range' (i + 1) r.length) a w := by
      intro s hg h hw
      simp only [wpOps, hi, hw, Bool.false_eq_true, if_false]
      obtain ⟨I, ρ, hI, hT, hinv, hk⟩ := hg
      exact ih ⟨putT s.T o.dst (.tup []), s.H⟩ _ _ ⟨I, ρ, hI, tRel_put hT o.dst tup_nil, hinv, hk⟩ h
    rw [List.length_cons, List.range'_succ]
    simp only [runOps] at h
    cases hgd : o.guard with
    | none =>
      rw [hgd] at h
      exact step s hg h (by simp [Region.wanted, hgd])
    | some q =>
      obtain ⟨j, want⟩ := q
      rw [hgd] at h
      simp only at h
      cases hgo : guardOf ops j with
      | none => rw [hgo] at h; exact h.elim
      | some g =>
        rw [hgo] at h
        simp only at h
        obtain ⟨I, ρ, hI, hT, hinv, hk⟩ := hg
        cases hb : s.T.getD g .dead with
        | dead => rw [hb] at h; exact h.elim
        | tup l =>
          rw [hb] at h
          cases l with
          | nil =>
            have hy := yielded_none hT hgo hb
            exact skip s ⟨I, ρ, hI, hT, hinv, hk⟩ h (by simp [Region.wanted, hgd, hy])
          | cons x l => exact h.elim
        | v τ x =>
          rw [hb] at h
          cases τ with
          | bool =>
            simp only at h
            have hy := yielded_of hT hgo hb
            have hg1 : Good E ⟨s.T.set g (.v .bool x), s.H⟩ a w := ⟨I, ρ, hI, set_guard hT hb, hinv, hk⟩
            have hw : Region.wanted o (yielded ops a.tmps) = (x == want) := by simp [Region.wanted, hgd, hy]
            have h' : cond (x == want) (runEff C callF o.dst (opEff C (evT (s.T.set g (.v .bool x))) s.H o.op) ⟨s.T.set g (.v .bool x), s.H⟩ (frzK C o.dst (runOps C callF ops κ r))) (runOps C callF ops κ r ⟨putT (s.T.set g (.v .bool x)) o.dst (.tup []), s.H⟩) := by
              cases x <;> exact h
            cases hxw : (x == want) with
            | true => rw [hxw, cond_true] at h'; exact step _ hg1 h' (by rw [hw, hxw])
            | false => rw [hxw, cond_false] at h'; exact skip _ hg1 h' (by rw [hw, hxw])
          | _ => exact h.elim

theorem maskT_get (p : Nat → Bool) (keep : List Nat) : ∀ (T : List AV) (k i : Nat), (maskT p keep k T)[i]? = T[i]?.map fun x => cond (memb (k + i) keep) (x.kill p) .dead
  | [], k, i => by simp [maskT]
  | x :: r, k, 0 => by simp [maskT]
  | x :: r, k, i + 1 => by
    simp only [maskT, List.getElem?_cons_succ]
    rw [maskT_get p keep r (k + 1) i, show k + 1 + i = k + (i + 1) by omega]

theorem scrub_ok {s : St} {a : Act} {w : World} {keep : List Nat} {n : Nat} (hb : E.H.length ≤ n) (hn : n ≤ s.H.length) (hg : Good E s a w) : Good E (scrub keep n s) a w := by
  obtain ⟨I, ρ, hI, hT, hinv, hk⟩ := hg
  let ρ' : Nat → Place := fun b => if b < n then ρ b else .none
  have hp : ∀ b, Nat.ble n b = false → ρ b ≠ .none → ρ' b = ρ b := fun b hb _ => by
    have : b < n := by
      rcases Nat.lt_or_ge b n with h | h
      · exact h
      · rw [Nat.ble_eq_true_of_le h] at hb; cases hb
    exact if_pos this
  have hp' : ∀ b, Nat.ble n b = false → ρ' b = ρ b := fun b hb => by
    have : b < n := by
      rcases Nat.lt_or_ge b n with h | h
      · exact h
      · rw [Nat.ble_eq_true_of_le h] at hb; cases hb
    exact if_pos this
  refine ⟨I, ρ', hI, ?_, ?_, ?_⟩
  · refine ⟨?_, hT.defs, fun i => ?_⟩
    · have hlen : (maskT (Nat.ble n) keep 0 s.T).length = s.T.length := by
        have : ∀ (T : List AV) (k : Nat), (maskT (Nat.ble n) keep k T).length = T.length := by
          intro T
          induction T with
          | nil => intro k; rfl
          | cons x r ih => intro k; simp only [maskT, List.length_cons, ih]
        exact this s.T 0
      exact hlen.trans hT.size
    · have hk1 := (tRel_kill (ρ' := ρ') (Sub.refl I) (Nat.ble n) hp hT).val i
      show AVRel I ρ' ((maskT (Nat.ble n) keep 0 s.T).getD i .dead) _
      rw [getD_map_dead _ rfl] at hk1
      rw [List.getD_eq_getElem?_getD, maskT_get]
      rw [List.getD_eq_getElem?_getD] at hk1
      cases hx : s.T[i]? with
      | none => trivial
      | some x =>
        rw [hx] at hk1
        cases memb (0 + i) keep with
        | true => exact hk1
        | false => trivial
  · have hold : ∀ (i : Nat) (x : HObj), ((s.H.take n).map (HObj.kill (Nat.ble n)))[i]? = some x → i < n ∧ ∃ y : HObj, s.H[i]? = some y ∧ x = y.kill (Nat.ble n) := by
      intro i x hi
      rw [List.getElem?_map, List.getElem?_take] at hi
      split at hi
      · rename_i hlt
        obtain ⟨y, h1, h2⟩ := Option.map_eq_some_iff.1 hi
        exact ⟨hlt, y, h1, h2.symm⟩
      · cases hi
    refine ⟨hinv.imm, hinv.dis, hinv.frm, ?_, ?_, ?_, ?_, hinv.os, hinv.tape, hinv.output, hinv.size⟩
    · intro i x hi
      obtain ⟨hlt, y, hy, rfl⟩ := hold i x hi
      exact hRel_mono (Sub.refl I) (namesH_imp (fun b hb => hp' b hb) _ (namesH_kill (Nat.ble n) y)) (if_pos hlt) (fun _ _ _ _ => rfl) (hRel_kill (hinv.own i y hy))
    · intro i x hi hl k c sz hb
      obtain ⟨hlt, y, hy, rfl⟩ := hold i x hi
      rw [live_kill] at hl
      rw [show ρ' i = ρ i from if_pos hlt] at hb
      exact hinv.sep i y hy hl k c sz hb
    · intro i j oi oj hi hj li lj k c sz c' sz' hbi hbj
      obtain ⟨hlti, y, hy, rfl⟩ := hold i oi hi
      obtain ⟨hltj, z, hz, rfl⟩ := hold j oj hj
      rw [live_kill] at li lj
      rw [show ρ' i = ρ i from if_pos hlti] at hbi
      rw [show ρ' j = ρ j from if_pos hltj] at hbj
      exact hinv.inj i j y z hy hz li lj k c sz c' sz' hbi hbj
    · intro b hb
      have : ((s.H.take n).map (HObj.kill (Nat.ble n))).length = n := by simp; omega
      rw [show (scrub keep n s).H.length = n from this] at hb
      exact if_neg (by omega)
  · have hlen : (scrub keep n s).H.length = n := by
      show ((s.H.take n).map (HObj.kill (Nat.ble n))).length = n
      simp; omega
    refine ⟨by rw [hlen]; exact hb, fun i hi hr => ?_, fun i hi hr => ?_⟩
    · have h0 := hk.row i hi hr
      show rowAt ((s.H.take n).map (HObj.kill (Nat.ble n))) i = _
      rw [rowAt_map _ (isRow_kill _)]
      unfold rowAt at h0 ⊢
      rw [List.getElem?_take, if_pos (by omega)]
      exact h0
    · rw [← hk.stay i hi hr]
      exact if_pos (by omega)

theorem leave_ok {s : St} {a : Act} {w : World} {base : Nat} {x : Option (List Nat × Nat)} {κ : St → Prop} (hb : base = E.H.length) (hg : Good E s a w) (h : leave base x κ s) : Lift E κ a w := by
  unfold leave at h
  split at h
  · rename_i keep n
    cases hq : (Nat.ble base n && Nat.ble n s.H.length) with
    | false => rw [hq] at h; exact h.elim
    | true =>
      rw [hq, cond_true] at h
      rw [Bool.and_eq_true] at hq
      exact ⟨_, h, scrub_ok (by rw [← hb]; exact Nat.le_of_ble_eq_true hq.1) (Nat.le_of_ble_eq_true hq.2) hg⟩
  · exact ⟨s, h, hg⟩

theorem leaveX_ok {s : St} {a : Act} {w : World} {base : Nat} {lims : List Nat} {x : Option (List Nat × Nat)} {κ : St → Prop} (hb : base = E.H.length) (hg : Good E s a w) (h : leaveX base lims x κ s) : Lift E κ a w := by
  unfold leaveX at h
  split at h
  · split at h
    · exact leave_ok hb hg h
    · exact h.elim
  · exact ⟨s, h, hg⟩

def Post (E : En) (k : K) : Exit → Act → World → Prop
  | .normal, a, w => Lift E k.normal a w
  | .exit id, a, w => Lift E (k.exit id) a w
  | .ret, a, w => Lift E k.ret a w
  | _, _, _ => False

theorem exec_ok (hTab : TabOK C P) {callF : FuncId → CF} (hF : ∀ g, SoundF P g (callF g)) (hP : ∀ g ts F, C.pur g = some (ts, F) → SoundP P g F)
    (hD : ∀ ops, drawCheck ops = true → ∀ (κ : St → Prop) (id : Nat) (s : St) (a : Act) (w : World) (k : K), Good E s a w → runD C callF ops (masks ops) s.H.length k.normal 0 [] ops.toList ⟨s.T, s.H ++ List.replicate ops.size .dead⟩ → (Code.region id ops true).wp P (Post E k) a w) :
    ∀ (c : Code) (k : K) (s : St) (a : Act) (w : World), k.base = E.H.length → LoopsOK C callF c → Good E s a w → exec C callF c k s → c.wp P (Post E k) a w := by
  intro c
  induction c with
  | skip => intro k s a w hkb hL hg h; exact wp_skip ⟨s, h, hg⟩
  | label l => intro k s a w hkb hL hg h; exact wp_label ⟨s, h, hg⟩
  | exit id => intro k s a w hkb hL hg h; exact wp_exit (leaveX_ok hkb hg h)
  | ret => intro k s a w hkb hL hg h; exact wp_ret (leave_ok hkb hg h)
  | goto l => intro k s a w hkb hL hg h; exact h.elim
  | refuse l => intro k s a w hkb hL hg h; exact h.elim
  | rangeFunc f p x y => intro k s a w hkb hL hg h; exact h.elim
  | scope c => intro k s a w hkb hL hg h; exact h.elim
  | region id ops draw =>
    intro k s0 a w hkb hL hg0 h0
    simp only [exec] at h0
    obtain ⟨s, h, hg⟩ := leave_ok hkb hg0 h0
    have run : ∀ (k : K), regRun C callF id ops draw k.normal s → (Code.region id ops draw).wp P (Post E k) a w := by
      intro k h
      unfold regRun at h
      cases hgh : ghosts (C.gh id) s with
      | none => rw [hgh] at h; exact h.elim
      | some s' =>
        rw [hgh] at h
        have hg' := ghost_ok _ hgh hg
        simp only at h
        cases draw with
        | true =>
          rw [cond_true] at h
          cases hdc : drawCheck ops with
          | false => rw [hdc] at h; exact h.elim
          | true =>
            rw [hdc, cond_true] at h
            exact hD ops hdc k.normal id s' a w k hg' h
        | false =>
          rw [cond_false] at h
          refine wp_region ?_
          have := runOps_ok (E := E) (Q := Post E k) hTab hF hP ops (fun a w h => h) ops.toList 0 s' a w rfl hg' h
          rw [List.range_eq_range']
          simpa using this
    cases hc : C.cuts id with
    | none => rw [hc] at h; exact run k h
    | some x =>
      obtain ⟨keep, n, F⟩ := x
      rw [hc] at h
      simp only at h
      cases hb : Nat.ble k.base n with
      | false => rw [hb] at h; exact h.elim
      | true =>
        rw [hb, cond_true] at h
        refine wp_mono (run { k with normal := cutK keep n k.normal } (hL keep n F hc k.normal s h)) ?_
        intro e a w hp
        cases e with
        | normal =>
          obtain ⟨s', h1, h2⟩ := hp
          have h1 : cond (Nat.ble n s'.H.length) (k.normal (scrub keep n s')) False := h1
          cases hn : Nat.ble n s'.H.length with
          | false => rw [hn] at h1; exact h1.elim
          | true =>
            rw [hn, cond_true] at h1
            exact ⟨_, h1, scrub_ok (by rw [← hkb]; exact Nat.le_of_ble_eq_true hb) (Nat.le_of_ble_eq_true hn) h2⟩
        | _ => exact hp
  | seq x y ihx ihy =>
    intro k s a w hkb hL hg h
    simp only [exec] at h
    refine wp_seq (wp_mono (ihx { k with normal := exec C callF y k } s a w hkb hL.1 hg h) ?_)
    intro e a w hp
    cases e with
    | normal =>
      obtain ⟨s', h1, h2⟩ := hp
      exact ihy k s' a w hkb hL.2 h2 h1
    | _ => exact hp
  | cond c x y ihx ihy =>
    intro k s a w hkb hL hg h
    simp only [exec] at h
    obtain ⟨I, ρ, hI, hT, hinv, hk⟩ := hg
    have hv := evT_ok hT c
    cases hc : evT s.T c with
    | tup l => rw [hc] at h; exact h.elim
    | dead => rw [hc] at h; exact h.elim
    | v τ b =>
      rw [hc] at h hv
      cases τ with
      | bool =>
        have he := bool_of hv
        simp only at h
        refine wp_cond he ?_
        cases b with
        | true => exact ihx k s a w hkb hL.1 ⟨I, ρ, hI, hT, hinv, hk⟩ h
        | false => exact ihy k s a w hkb hL.2 ⟨I, ρ, hI, hT, hinv, hk⟩ h
      | _ => exact h.elim
  | block id c ih =>
    intro k s a w hkb hL hg h
    simp only [exec] at h
    refine wp_block (wp_mono (ih { k with exit := fun j s' => cond (Nat.beq j id) (k.normal s') (k.exit j s') } s a w hkb hL hg h) ?_)
    intro e a w hp
    cases e with
    | normal => exact hp
    | exit j =>
      obtain ⟨s', h1, h2⟩ := hp
      show if j = id then _ else _
      simp only at h1
      split
      · rename_i e
        rw [show Nat.beq j id = true by rw [e]; simp, cond_true] at h1
        exact ⟨s', h1, h2⟩
      · rename_i e
        have : Nat.beq j id = false := by
          cases hb : Nat.beq j id with
          | false => rfl
          | true => exact absurd (Nat.eq_of_beq_eq_true hb) e
        rw [this, cond_false] at h1
        exact ⟨s', h1, h2⟩
    | ret => exact hp
    | _ => exact hp.elim
  | loop c ih =>
    intro k s a w hkb hL hg h
    simp only [exec] at h
    cases ht : C.loops (firstRegion c) with
    | none => rw [ht] at h; exact h.elim
    | some q =>
      obtain ⟨keep, L⟩ := q
      rw [ht] at h
      simp only at h
      have hbase : E.H.length ≤ s.H.length := by obtain ⟨_, _, _, _, _, hk⟩ := hg; exact hk.len
      obtain ⟨m, hm⟩ := hL.1 keep L ht k _ _ h
      have hgs := scrub_ok (keep := keep) hbase (Nat.le_refl _) hg
      revert hm hgs hbase
      generalize s.H.length = n
      intro hbase hm hgs
      · skip
        -- so many rounds
        refine wp_loop_n (fun m a w => ∃ s, loopN C callF keep n c k m s ∧ Good E s a w) ?_ m a w ⟨_, hm, hgs⟩
        intro m a w ⟨s, h1, h2⟩
        cases m with
        | zero => exact h1.elim
        | succ m =>
          simp only [loopN] at h1
          refine wp_mono (ih { k with lims := n :: k.lims, normal := fun s' => cond (Nat.ble n s'.H.length) (loopN C callF keep n c k m (scrub keep n s')) False } s a w hkb hL.2 h2 h1) ?_
          intro e a w hp
          cases e with
          | normal =>
            obtain ⟨s', h3, h4⟩ := hp
            simp only at h3
            cases hbn : Nat.ble n s'.H.length with
            | false => rw [hbn] at h3; exact h3.elim
            | true =>
              rw [hbn, cond_true] at h3
              exact ⟨m, Nat.lt_succ_self m, _, h3, scrub_ok hbase (Nat.le_of_ble_eq_true hbn) h4⟩
          | _ => exact hp
where
  wp_loop_n {P : Program} {c : Code} {Q : Exit → Act → World → Prop} (I : Nat → Act → World → Prop)
      (round : ∀ m a w, I m a w → c.wp P (Exit.then (fun a' w' => ∃ m', m' < m ∧ I m' a' w') Q) a w) : ∀ m a w, I m a w → (Code.loop c).wp P Q a w := by
    intro m a w h b k cs
    have key : ∀ m a w, I m a w → ∃ e a' w', Q e a' w' ∧ Arrives P (lone (b.at a (.code c :: .inLoop c :: k)) cs w) b k cs e a' w' := by
      intro m
      induction m using Nat.strongRecOn with
      | _ m ih =>
        intro a w hI
        obtain ⟨e, a₁, w₁, hq, harr⟩ := round m a w hI b (.inLoop c :: k) cs
        cases e with
        | normal =>
          obtain ⟨m', hlt, hI₁⟩ := hq
          obtain ⟨e₂, a₂, w₂, hq₂, harr₂⟩ := ih m' hlt a₁ w₁ hI₁
          exact ⟨e₂, a₂, w₂, hq₂, .of_steps (Steps.trans harr (.one step_inLoop)) harr₂⟩
        | exit id => exact ⟨_, a₁, w₁, hq, .pass (x := .inLoop c) rfl (fun _ _ => .inl (by simp)) harr⟩
        | goto l => exact ⟨_, a₁, w₁, hq, .pass (x := .inLoop c) rfl (fun _ _ => .inl (by simp)) harr⟩
        | ret => exact ⟨_, a₁, w₁, hq, .pass (x := .inLoop c) rfl (fun _ _ => .inl (by simp)) harr⟩
        | panic ch => exact ⟨_, a₁, w₁, hq, .pass (x := .inLoop c) rfl (fun _ _ => .inl (by simp)) harr⟩
        | outgrown => exact ⟨_, a₁, w₁, hq, .pass (x := .inLoop c) rfl (fun _ _ => .inl (by simp)) harr⟩
    obtain ⟨e, a', w', hq, harr⟩ := key m a w h
    exact ⟨e, a', w', hq, .of_steps (.one step_loop) harr⟩
end
end Go.Proofs.Ytdjdbjcapenjeaa.Dx

/- The run of a function on abstract values is a contract of the function. -/
namespace Go.Proofs.Ytdjdbjcapenjeaa.Dx
open Go Go.RowKit
set_option linter.unusedVariables false
set_option linter.unusedSimpArgs false
section
variable {I : Nat → Option Obj} {ρ : Nat → Place} {w : World} {P : Program} {C : Ctx} {E : En}

theorem run_results (hTab : TabOK C P) {B : Base} {s : St} {a : Act} (hT : TRel I ρ s.T a) (hinv : Inv B I ρ s.H w) : ∀ (rs : List ResultVar) (l : List SV), resD C s rs = some l →
    ∃ vs, (rs.mapM (fun | .tmp t => pure (a.tmps.getD t undef) | .cell x t => do loadVar t (← asAddr (a.tmps.getD x undef)) : ResultVar → Sem Value)).run P w = .ok vs w ∧ Vals I ρ l vs
  | [], l, h => by cases h; exact ⟨[], rfl, rfl⟩
  | .tmp t :: r, l, h => by
    simp only [resD] at h
    cases ht : s.T.getD t .dead with
    | tup l => rw [ht] at h; cases h
    | dead => rw [ht] at h; cases h
    | v τ x =>
      cases hr : resD C s r with
      | none => rw [ht, hr] at h; cases h
      | some l' =>
        rw [ht, hr] at h
        cases h
        obtain ⟨vs, h1, h2⟩ := run_results hTab hT hinv r l' hr
        have hv := hT.val t
        rw [ht] at hv
        refine ⟨a.tmps.getD t undef :: vs, ?_, _, vs, rfl, hv, h2⟩
        rw [List.mapM_cons]
        simp only [Sem.run_bind, Sem.run_pure, Result.andThen_ok, h1]
  | .cell x t :: r, l, h => by
    simp only [resD] at h
    have hload := load_ok (P := P) hTab hinv (hT.val x) t
    split at h
    · rename_i τ y l' hl hr
      cases h
      obtain ⟨vs, h1, h2⟩ := run_results hTab hT hinv r l' hr
      rw [hl] at hload
      obtain ⟨v, h3, h4⟩ := hload trivial
      refine ⟨v :: vs, ?_, v, vs, rfl, h4, h2⟩
      rw [List.mapM_cons]
      have h5 : (do loadVar t (← asAddr (a.tmps.getD x undef)) : Sem Value).run P w = .ok v w := by
        unfold Instr.loadAt at h3
        simp only [Sem.run_bind] at h3 ⊢
        have : (Instr.sureAddr (a.tmps.getD x undef)).run P w = (asAddr (a.tmps.getD x undef)).run P w := by
          cases hq : a.tmps.getD x undef with
          | pointer o =>
            cases o with
            | some b => rfl
            | none => rw [hq] at h3; simp [Instr.sureAddr] at h3
          | _ => rw [hq] at h3; simp [Instr.sureAddr] at h3
        rw [this] at h3
        exact h3
      simp only [Sem.run_bind] at h5 ⊢
      rw [h5]
      simp only [Result.andThen_ok, Sem.run_bind, h1, Sem.run_pure]
    · cases h

theorem results_ok (hTab : TabOK C P) {B : Base} {s : St} {a : Act} (hT : TRel I ρ s.T a) (hinv : Inv B I ρ s.H w) {fn : Func} {l : List SV} (h : resD C s fn.results.toList = some l) :
    ∃ v, (results fn a.tmps).run P w = .ok v w ∧ AVRel I ρ (resAV l) v := by
  obtain ⟨vs, h1, h2⟩ := run_results hTab hT hinv fn.results.toList l h
  have hm : (fn.results.mapM (fun | .tmp t => pure (a.tmps.getD t undef) | .cell x t => do loadVar t (← asAddr (a.tmps.getD x undef)) : ResultVar → Sem Value)).run P w = .ok vs.toArray w := by
    rw [← Array.toArray_toList (xs := fn.results), List.mapM_toArray]
    simp only [Sem.run_map, h1, Result.andThen_ok]
  refine ⟨if h : vs.toArray.size = 1 then vs.toArray[0] else .tuple vs.toArray, ?_, ?_⟩
  · unfold results
    rw [Sem.run_bind]
    exact congrArg (fun r : Result (Array Value) => r.andThen fun vs w' => Result.ok (if h : vs.size = 1 then vs[0] else Value.tuple vs) w') hm
  · cases l with
    | nil =>
      simp only [Vals] at h2
      subst h2
      exact ⟨#[], rfl, rfl⟩
    | cons x r =>
      obtain ⟨v, vs', rfl, h3, h4⟩ := h2
      cases r with
      | nil =>
        simp only [Vals] at h4
        subst h4
        exact h3
      | cons y r =>
        obtain ⟨u, vs'', rfl, h5, h6⟩ := h4
        rw [dif_neg (by simp)]
        exact ⟨_, rfl, v, _, rfl, h3, u, vs'', rfl, h5, h6⟩

theorem avs_length : ∀ (xs : List AV) (vs : List Value), AVs I ρ xs vs → xs.length = vs.length
  | [], vs, h => by simp only [AVs] at h; subst h; rfl
  | x :: r, vs, h => by obtain ⟨v, vs', rfl, _, h2⟩ := h; simp [avs_length r vs' h2]
theorem avs_get : ∀ (xs : List AV) (vs : List Value) (i : Nat), AVs I ρ xs vs → i < xs.length → AVRel I ρ (xs.getD i .dead) (vs.getD i undef)
  | [], vs, i, h, hi => by simp at hi
  | x :: r, vs, 0, h, hi => by obtain ⟨v, vs', rfl, h1, _⟩ := h; exact h1
  | x :: r, vs, i + 1, h, hi => by
    obtain ⟨v, vs', rfl, _, h2⟩ := h
    simpa using avs_get r vs' i h2 (by simpa using hi)

theorem tRel_start {args : List AV} {vals : Array Value} (h : AVs I ρ args vals.toList) (n : Nat) : TRel I ρ (args ++ List.replicate (n - args.length) (.tup [])) { tmps := vals ++ Array.replicate (n - vals.size) undef, defers := [] } := by
  have hl : args.length = vals.size := by
    have := avs_length args _ h
    simpa using this
  refine ⟨by simp [hl], rfl, fun i => ?_⟩
  show AVRel I ρ _ ((vals ++ Array.replicate (n - vals.size) undef).getD i undef)
  rw [List.getD_eq_getElem?_getD, Array.getD_eq_getD_getElem?]
  by_cases hi : i < args.length
  · rw [List.getElem?_append_left hi, Array.getElem?_append_left (by omega)]
    have := avs_get args _ i h hi
    rw [List.getD_eq_getElem?_getD, List.getD_eq_getElem?_getD] at this
    simpa using this
  · rw [List.getElem?_append_right (by omega), Array.getElem?_append_right (by omega), List.getElem?_replicate, Array.getElem?_replicate, hl]
    by_cases hj : i - vals.size < n - vals.size
    · rw [if_pos hj, if_pos hj]; exact tup_nil
    · rw [if_neg hj, if_neg hj]; trivial

/-- THE RUN IS SOUND. -/
theorem runFn_sound (hTab : TabOK C P) {callF : FuncId → CF} (hF : ∀ g, SoundF P g (callF g)) (hP : ∀ g ts F, C.pur g = some (ts, F) → SoundP P g F)
    (hD : ∀ E ops, drawCheck ops = true → ∀ (κ : St → Prop) (id : Nat) (s : St) (a : Act) (w : World) (k : K), Good E s a w → runD C callF ops (masks ops) s.H.length k.normal 0 [] ops.toList ⟨s.T, s.H ++ List.replicate ops.size .dead⟩ → (Code.region id ops true).wp P (Post E k) a w)
    {f : FuncId} {fn : Func} {c : Code} (hf : P.funcs[f]? = some fn) (hb : fn.body = some c) (hL : LoopsOK C callF c) : SoundF P f (fun args H κ => runFn C callF fn args H κ) := by
  intro args H κ h B I ρ w vals hinv hargs
  unfold runFn at h
  rw [hb] at h
  simp only at h
  refine calls_of_wp hf hb (wp_mono (exec_ok (E := ⟨B, I, H, ρ⟩) hTab hF hP (hD _) c _ _ _ w rfl hL ⟨I, ρ, Sub.refl I, tRel_start hargs fn.ntmps, hinv, Kept.refl _ _⟩ h) ?_)
  have key : ∀ a w, Lift ⟨B, I, H, ρ⟩ (fun s => match resD C s fn.results.toList with | some l => κ (resAV l) s.H | none => False) a w →
      a.defers = [] ∧ ∃ v, (results fn a.tmps).run P w = .ok v w ∧ Back B I ρ H κ (.returned v) w := by
    rintro a w ⟨s, h1, J, ρ', hs, hT, hinv', hk⟩
    cases hr : resD C s fn.results.toList with
    | none => rw [hr] at h1; exact h1.elim
    | some l =>
      rw [hr] at h1
      obtain ⟨v, h2, h3⟩ := results_ok hTab hT hinv' hr
      exact ⟨hT.defs, v, h2, _, v, s.H, J, ρ', rfl, h1, hs, h3, hinv', hk⟩
  intro e a w hp
  cases e with
  | normal => exact key a w hp
  | ret => exact key a w hp
  | exit id => obtain ⟨s, h1, _⟩ := hp; exact h1.elim
  | goto l => exact hp.elim
  | panic c => exact hp.elim
  | outgrown => exact hp.elim

theorem soundF_mono {f : FuncId} {F G : CF} (h : SoundF P f G) (hFG : ∀ args H κ, F args H κ → G args H κ) : SoundF P f F :=
  fun args H κ hf => h args H κ (hFG args H κ hf)
theorem soundF_none (f : FuncId) : SoundF P f (fun _ _ _ => False) := fun _ _ _ h => h.elim
/-- A contract that ends in one answer, as a function that only computes. -/
theorem soundP_of {f : FuncId} {F : CF} (h : SoundF P f F) {G : List AV → PV} (hG : ∀ args, AllP (G args).1 → F args [] fun r H => r = (G args).2 ∧ H = []) : SoundP P f G := by
  intro args hc B I ρ w vals hinv hargs
  refine (h args [] _ (hG args hc) B I ρ w vals hinv hargs).mono ?_
  rintro e w' ⟨r, v, H', J, ρ', rfl, ⟨rfl, rfl⟩, h1, h2, h3, h4⟩
  have h0 : ∀ b, ρ' b = .none := fun b => h3.fresh b (Nat.zero_le _)
  have h00 : ∀ b, ρ b = .none := fun b => hinv.fresh b (Nat.zero_le _)
  have e : ρ' = ρ := funext fun b => (h0 b).trans (h00 b).symm
  subst e
  exact ⟨v, J, rfl, h1, h2, h3⟩
end
end Go.Proofs.Ytdjdbjcapenjeaa.Dx

/- Statements whose order Go leaves open: what an operation hangs on. -/
namespace Go.Proofs.Ytdjdbjcapenjeaa.Dx
open Go Go.RowKit
set_option linter.unusedVariables false
set_option linter.unusedSimpArgs false
section
variable {C : Ctx}

theorem map_ev {ev ev' : Operand → AV} {l : List Operand} (h : ∀ x ∈ l, ev x = ev' x) : l.map ev = l.map ev' := List.map_congr_left h

theorem opEff_congr {ev ev' : Operand → AV} {H : List HObj} (op : Op) (h : ∀ x ∈ op.operands, ev x = ev' x) : opEff C ev H op = opEff C ev' H op := by
  have parts : ∀ ps : Array (Nat × Operand), (∀ x ∈ (ps.toList.map (·.2)).toArray, ev x = ev' x) → (ps.toList.map fun p => (p.1, ev p.2)) = ps.toList.map fun p => (p.1, ev' p.2) := fun ps hp =>
    List.map_congr_left fun p hm => by rw [hp p.2 (by simp; exact ⟨p.1, by simpa using hm⟩)]
  cases op
  case call c =>
    have ha : c.args.toList.map ev = c.args.toList.map ev' := map_ev fun x hx => h x (by simp [Op.operands, Call.operands]; exact .inr (by simpa using hx))
    simp only [opEff, callD, ha]
    cases hc : c.callee with
    | value f => have hf : ev f = ev' f := h f (by simp [Op.operands, Call.operands, hc]); simp only [hf]
    | invoke r m => have hr : ev r = ev' r := h r (by simp [Op.operands, Call.operands, hc]); simp only [hr]
    | builtin b => cases b <;> rfl
  case build t ps => simp only [opEff, parts ps (fun x hx => h x (by simpa [Op.operands] using hx))]
  case buildSlice t n ps => simp only [opEff, parts ps (fun x hx => h x (by simpa [Op.operands] using hx))]
  case slice t x lo hi mx =>
    have hx : ev x = ev' x := h x (by simp [Op.operands])
    have hl : lo.map ev = lo.map ev' := by
      cases lo with
      | none => rfl
      | some y => exact congrArg some (h y (by simp [Op.operands]))
    have hh : hi.map ev = hi.map ev' := by
      cases hi with
      | none => rfl
      | some y => exact congrArg some (h y (by simp [Op.operands]))
    cases mx with
    | none => simp only [opEff, hx, hl, hh]
    | some y => rfl
  case makeFunc fn first caps =>
    cases fn with
    | func f =>
      simp only [opEff]
      rw [map_ev (l := caps.toList) fun x hx => h x (by simp [Op.operands]; exact .inr (by simpa using hx))]
    | _ => rfl
  case unOp op t x =>
    have hx : ev x = ev' x := h x (by simp [Op.operands])
    cases op <;> simp only [opEff, hx]
  case typeAssert x xt t ok =>
    have hx : ev x = ev' x := h x (by simp [Op.operands])
    cases ok <;> simp only [opEff, hx]
  case makeMap t r =>
    cases r with
    | none => rfl
    | some x => simp only [opEff, Option.map_some, h x (by simp [Op.operands])]
  all_goals first
    | rfl
    | (simp only [Op.operands] at h
       simp only [opEff]
       simp_all)

theorem readsOf_congr {ev ev' : Operand → AV} (op : Op) (h : ∀ x ∈ op.operands, ev x = ev' x) : readsOf ev op = readsOf ev' op := by
  cases op
  case call c =>
    have ha : (c.args.toList.flatMap fun x => topIds (ev x)) = c.args.toList.flatMap fun x => topIds (ev' x) := by
      have : ∀ x ∈ c.args.toList, ev x = ev' x := fun x hx => h x (by simp [Op.operands, Call.operands]; exact .inr (by simpa using hx))
      generalize c.args.toList = l at this
      induction l with
      | nil => rfl
      | cons y l ih => rw [List.flatMap_cons, List.flatMap_cons, this y (List.mem_cons_self ..), ih fun x hx => this x (List.mem_cons_of_mem _ hx)]
    simp only [readsOf, ha]
  all_goals first
    | rfl
    | (simp only [Op.operands] at h
       simp only [readsOf]
       simp_all)

theorem moreD_agree {H H' : List HObj} {τ : Ty} {x : AV} (h : ∀ b ∈ topIds x, H'[b]? = H[b]?) : moreD H' τ x = moreD H τ x ∧ moreC H' x = moreC H x ∧ tyOfMore H' x = tyOfMore H x := by
  cases x with
  | tup l => exact ⟨rfl, rfl, rfl⟩
  | dead => exact ⟨rfl, rfl, rfl⟩
  | v σ y =>
    cases σ with
    | ref =>
      cases y with
      | sl b o l =>
        have := h b (by simp [topIds])
        simp only [moreD, moreC, tyOfMore, this, and_self]
      | _ => exact ⟨rfl, rfl, rfl⟩
    | _ => exact ⟨rfl, rfl, rfl⟩

theorem opEff_agree {ev : Operand → AV} {H H' : List HObj} (op : Op) (h : ∀ b ∈ readsOf ev op, H'[b]? = H[b]?) : opEff C ev H' op = opEff C ev H op := by
  cases op
  case load t x =>
    simp only [readsOf] at h
    simp only [opEff, loadD]
    generalize ev x = y at h
    cases y with
    | v σ z =>
      cases σ with
      | ref =>
        cases z with
        | ptr b p => simp only [h b (by simp [topIds])]
        | _ => rfl
      | _ => rfl
    | _ => rfl
  case store t x y =>
    simp only [readsOf] at h
    simp only [opEff]
    generalize ev x = q at h
    cases q with
    | v σ z =>
      cases σ with
      | ref =>
        cases z with
        | ptr b p =>
          have hb := h b (by simp [topIds])
          cases ev y <;> simp only [hb]
        | _ => rfl
      | _ => rfl
    | _ => rfl
  case indexAddr t x i =>
    simp only [readsOf] at h
    simp only [opEff, indexAddrD]
    generalize ev x = q at h
    generalize descT C t = D
    generalize intD (ev i) = N
    cases q with
    | v σ z =>
      cases σ with
      | ref =>
        cases z with
        | sl b o l =>
          have hb := h b (by simp [topIds])
          cases D <;> cases N <;> first | rfl | simp only [hb]
        | _ => cases D <;> cases N <;> rfl
      | ptr σ => cases D <;> cases N <;> first | rfl | (cases σ <;> rfl)
      | _ => cases D <;> cases N <;> rfl
    | _ => cases D <;> cases N <;> rfl
  case lookup t x i ok =>
    simp only [readsOf] at h
    simp only [opEff, lookupD]
    generalize ev x = q at h
    generalize ev i = n
    generalize descT C t = D
    cases q with
    | v σ z =>
      cases σ with
      | ref =>
        cases z with
        | mp b =>
          have hb := h b (by simp [topIds])
          cases D <;> first | rfl | (cases n with
            | v τn m => cases τn <;> first | rfl | simp only [hb]
            | _ => rfl)
        | _ => cases D <;> rfl
      | _ => cases D <;> rfl
    | _ => cases D <;> rfl
  case mapUpdate t x i y =>
    simp only [readsOf] at h
    simp only [opEff, mapUpdateD]
    generalize ev x = q at h
    generalize ev i = n
    generalize ev y = m
    generalize descT C t = D
    cases q with
    | v σ z =>
      cases σ with
      | ref =>
        cases z with
        | mp b =>
          have hb := h b (by simp [topIds])
          cases D <;> first | rfl | (cases n with
            | v τn m' => cases τn <;> first | rfl | (cases m <;> first | rfl | simp only [hb])
            | _ => rfl)
        | _ => cases D <;> rfl
      | _ => cases D <;> rfl
    | _ => cases D <;> rfl
  case slice t x lo hi mx =>
    simp only [readsOf] at h
    cases mx with
    | some y => rfl
    | none =>
      simp only [opEff, sliceD]
      generalize ev x = q at h
      generalize descT C t = D
      generalize boundD (Option.map ev lo) = L
      generalize boundD (Option.map ev hi) = R
      cases L with
      | none => rfl
      | some L =>
        cases R with
        | none => rfl
        | some R =>
          simp only
          cases q with
          | v σ z =>
            cases σ with
            | ref =>
              cases z with
              | sl b o l =>
                have hb := h b (by simp [topIds])
                cases D <;> first | rfl | simp only [hb]
              | _ => cases D <;> rfl
            | _ => cases D <;> rfl
          | _ => cases D <;> rfl
  case call c =>
    simp only [readsOf] at h
    simp only [opEff, callD]
    split
    · rfl
    · rename_i hc
      rw [hc] at h
      simp only at h
      split
      · rename_i s x t tx hx ht
        have hl : ∀ b ∈ topIds s ++ topIds x, H'[b]? = H[b]? := fun b hb => h b (by
          have : c.args.toList.flatMap (fun x => topIds (ev x)) = (c.args.toList.map ev).flatMap topIds := by rw [List.flatMap_map]
          rw [this, hx]
          simpa using hb)
        have hs : ∀ b ∈ topIds s, H'[b]? = H[b]? := fun b hb => hl b (List.mem_append_left _ hb)
        have hxx : ∀ b ∈ topIds x, H'[b]? = H[b]? := fun b hb => hl b (List.mem_append_right _ hb)
        have hm := fun τ => moreD_agree (τ := τ) hxx
        unfold appendD
        generalize descT C t = D
        cases D with
        | slice e =>
          simp only
          cases s with
          | v σ z =>
            cases σ with
            | ref =>
              cases z with
              | sl b o l => simp only [hs b (by simp [topIds]), (hm _).1, (hm .bool).2.1]
              | _ => rfl
            | nl => simp only [(hm _).1, (hm .bool).2.1, (hm .bool).2.2]
            | _ => rfl
          | _ => rfl
        | _ => rfl
      · rfl
    · rfl
    · rfl
    · rfl
    · rfl
    · rfl
  case unOp op t x => cases op <;> rfl
  case makeFunc fn first caps => cases fn <;> rfl
  case typeAssert x xt t ok => cases ok <;> rfl
  all_goals rfl
end
end Go.Proofs.Ytdjdbjcapenjeaa.Dx

/- Statements whose order Go leaves open: every order answers the same. -/
namespace Go.Proofs.Ytdjdbjcapenjeaa.Dx
open Go Go.RowKit
set_option linter.unusedVariables false
set_option linter.unusedSimpArgs false

/-- What one operation did: its answer, the block it wrote, what it looked into, and what it wrote that was there before. -/
structure HS where
  r : AV
  t : Option (Nat × HObj)
  rd : List Nat
  wr : Option Nat

def stepS (o : Oper) (h : HS) (s : St) : St := ⟨putT s.T o.dst h.r, match h.t with | some (b, ob) => s.H.set b ob | none => s.H⟩

/-- Is it carried out? -/
def wantAbs (ops : Array Oper) (T : List AV) (o : Oper) : Option Bool := match o.guard with
  | none => some true
  | some (j, want) => match guardOf ops j with
    | none => none
    | some g => match T.getD g .dead with
      | .v .bool b => some (b == want)
      | .tup [] => some false
      | _ => none

section
variable (C : Ctx) (ops : Array Oper) (ms : List Nat) (base : Nat)
inductive Did (i : Nat) (L : Log) (s : St) (o : Oper) : HS → Prop
  | skip : wantAbs ops s.T o = some false → Did i L s o ⟨.tup [], none, [], none⟩
  | val (p : PV) : wantAbs ops s.T o = some true → opEff C (evT s.T) s.H o.op = .val p → okRead ms base i L (readsOf (evT s.T) o.op) = true → AllP p.1 → Did i L s o ⟨p.2, none, readsOf (evT s.T) o.op, none⟩
  | imm (c : List Prop) (v : AV) : wantAbs ops s.T o = some true → opEff C (evT s.T) s.H o.op = .imm c v → okRead ms base i L (readsOf (evT s.T) o.op) = true → AllP c → Did i L s o ⟨v, none, readsOf (evT s.T) o.op, none⟩
  | new (c : List Prop) (v : Nat → AV) (ob : HObj) : wantAbs ops s.T o = some true → opEff C (evT s.T) s.H o.op = .new c v ob → okRead ms base i L (readsOf (evT s.T) o.op) = true → AllP c → Did i L s o ⟨v (base + i), some (base + i, ob), readsOf (evT s.T) o.op, none⟩
  | set (c : List Prop) (b : Nat) (o' : HObj) : wantAbs ops s.T o = some true → opEff C (evT s.T) s.H o.op = .set c b o' → okRead ms base i L (readsOf (evT s.T) o.op) = true → okWrite ms i L b = true → memb b (readsOf (evT s.T) o.op) = true → AllP c → Did i L s o ⟨.tup [], some (b, o'), readsOf (evT s.T) o.op, some b⟩
  | call (f : FuncId) (args : List AV) (ts : List Ty) (F : List AV → PV) (c : List Prop) (xs : List AV) : wantAbs ops s.T o = some true → opEff C (evT s.T) s.H o.op = .call f args → C.pur f = some (ts, F) → (args.all fun a => noIds a.ids) = true → okRead ms base i L (readsOf (evT s.T) o.op) = true → coArgs [] ts args = (c, some xs) → AllP c → AllP (F xs).1 → Did i L s o ⟨(F xs).2, none, readsOf (evT s.T) o.op, none⟩

inductive Ch : Nat → Log → St → List HS → St → Prop
  | nil (i : Nat) (L : Log) (s : St) : Ch i L s [] s
  | cons (i : Nat) (L : Log) (s : St) (o : Oper) (h : HS) (hs : List HS) (s' : St) : ops.toList[i]? = some o → Did C ops ms base i L s o h → Ch (i + 1) ((i, h.rd, h.wr) :: L) (stepS o h s) hs s' → Ch i L s (h :: hs) s'
end

section
variable {C : Ctx} {ops : Array Oper} {ms : List Nat} {base : Nat}

theorem set_self {T : List AV} {g : Nat} {x : AV} (h : T.getD g .dead = x) (hx : x ≠ .dead) : T.set g x = T := by
  apply List.ext_getElem?
  intro i
  rw [List.getElem?_set]
  split
  · rename_i e
    subst e
    split
    · rename_i hl
      rw [List.getD_eq_getElem?_getD, List.getElem?_eq_getElem hl] at h
      rw [List.getElem?_eq_getElem hl]
      exact congrArg some h.symm
    · rename_i hl
      rw [List.getElem?_eq_none (by omega)]
  · rfl

theorem runD_ch {callF : FuncId → CF} {κ : St → Prop} : ∀ (rest : List Oper) (i : Nat) (L : Log) (s : St), ops.toList.drop i = rest → runD C callF ops ms base κ i L rest s →
    ∃ hs s', Ch C ops ms base i L s hs s' ∧ ((i + hs.length = ops.size ∧ κ s') ∨ (i + hs.length < ops.size ∧ fullFrom ops ms ops.size (i + hs.length) = true ∧ runOps C callF ops κ (ops.toList.drop (i + hs.length)) s')) ∨ (rest = [] ∧ κ s)
  | [], i, L, s, hd, h => ⟨[], s, .inr ⟨rfl, h⟩⟩
  | o :: r, i, L, s, hd, h => by
    have hi : ops.toList[i]? = some o := by
      have := List.getElem?_drop (xs := ops.toList) (i := i) (j := 0)
      rw [hd] at this
      simpa using this.symm
    have hilt : i < ops.size := by
      have := (List.getElem?_eq_some_iff.1 hi).1
      simpa using this
    have hd' : ops.toList.drop (i + 1) = r := by
      rw [← List.drop_drop, hd]
      rfl
    -- one operation more
    have more : ∀ (x : HS), Did C ops ms base i L s o x → runD C callF ops ms base κ (i + 1) ((i, x.rd, x.wr) :: L) r (stepS o x s) →
        ∃ hs s', Ch C ops ms base i L s hs s' ∧ ((i + hs.length = ops.size ∧ κ s') ∨ (i + hs.length < ops.size ∧ fullFrom ops ms ops.size (i + hs.length) = true ∧ runOps C callF ops κ (ops.toList.drop (i + hs.length)) s')) ∨ (o :: r = [] ∧ κ s) := by
      intro x hx hr
      obtain ⟨hs, s', h1⟩ := runD_ch r (i + 1) _ _ hd' hr
      rcases h1 with ⟨h1, h2⟩ | ⟨h1, h2⟩
      · refine ⟨x :: hs, s', .inl ⟨.cons i L s o x hs s' hi hx h1, ?_⟩⟩
        simp only [List.length_cons]
        rw [show i + (hs.length + 1) = i + 1 + hs.length by omega]
        exact h2
      · refine ⟨[x], stepS o x s, .inl ⟨.cons i L s o x [] _ hi hx (.nil _ _ _), .inl ⟨?_, h2⟩⟩⟩
        rw [h1] at hd'
        have := List.drop_eq_nil_iff.1 hd'
        simp at this
        simp
        omega
    have stop : fullFrom ops ms ops.size i = true → runOps C callF ops κ (o :: r) s → ∃ hs s', Ch C ops ms base i L s hs s' ∧ ((i + hs.length = ops.size ∧ κ s') ∨ (i + hs.length < ops.size ∧ fullFrom ops ms ops.size (i + hs.length) = true ∧ runOps C callF ops κ (ops.toList.drop (i + hs.length)) s')) ∨ (o :: r = [] ∧ κ s) := by
      intro h1 h2
      refine ⟨[], s, .inl ⟨.nil _ _ _, .inr ⟨by simpa using hilt, by simpa using h1, ?_⟩⟩⟩
      simp only [List.length_nil, Nat.add_zero, hd]
      exact h2
    have hstep : wantAbs ops s.T o = some true → (match opEff C (evT s.T) s.H o.op with
      | .val p => cond (okRead ms base i L (readsOf (evT s.T) o.op)) (All p.1 (runD C callF ops ms base κ (i + 1) ((i, readsOf (evT s.T) o.op, none) :: L) r ⟨putT s.T o.dst p.2, s.H⟩)) False
      | .imm c v => cond (okRead ms base i L (readsOf (evT s.T) o.op)) (All c (runD C callF ops ms base κ (i + 1) ((i, readsOf (evT s.T) o.op, none) :: L) r ⟨putT s.T o.dst v, s.H⟩)) False
      | .new c v ob => cond (okRead ms base i L (readsOf (evT s.T) o.op)) (All c (runD C callF ops ms base κ (i + 1) ((i, readsOf (evT s.T) o.op, none) :: L) r ⟨putT s.T o.dst (v (base + i)), s.H.set (base + i) ob⟩)) False
      | .set c b o' => cond (okRead ms base i L (readsOf (evT s.T) o.op) && okWrite ms i L b && memb b (readsOf (evT s.T) o.op)) (All c (runD C callF ops ms base κ (i + 1) ((i, readsOf (evT s.T) o.op, some b) :: L) r ⟨putT s.T o.dst (.tup []), s.H.set b o'⟩)) False
      | .call f args => match C.pur f with
        | some (ts, F) => cond ((args.all fun a => noIds a.ids) && okRead ms base i L (readsOf (evT s.T) o.op)) (match coArgs [] ts args with
          | (c, some xs) => All c (All (F xs).1 (runD C callF ops ms base κ (i + 1) ((i, readsOf (evT s.T) o.op, none) :: L) r ⟨putT s.T o.dst (F xs).2, s.H⟩))
          | (_, none) => False) (cond (fullFrom ops ms ops.size i) (runOps C callF ops κ (o :: r) s) False)
        | none => cond (fullFrom ops ms ops.size i) (runOps C callF ops κ (o :: r) s) False
      | .app _ _ _ _ => cond (fullFrom ops ms ops.size i) (runOps C callF ops κ (o :: r) s) False
      | .bad => False) → ∃ hs s', Ch C ops ms base i L s hs s' ∧ ((i + hs.length = ops.size ∧ κ s') ∨ (i + hs.length < ops.size ∧ fullFrom ops ms ops.size (i + hs.length) = true ∧ runOps C callF ops κ (ops.toList.drop (i + hs.length)) s')) ∨ (o :: r = [] ∧ κ s) := by
      intro hw h
      cases he : opEff C (evT s.T) s.H o.op with
      | bad => rw [he] at h; exact h.elim
      | val p =>
        rw [he] at h
        simp only at h
        cases hk : okRead ms base i L (readsOf (evT s.T) o.op) with
        | false => rw [hk] at h; exact h.elim
        | true =>
          rw [hk] at h
          obtain ⟨h1, h2⟩ := all_split h
          exact more _ (.val p hw he hk h1) h2
      | imm c v =>
        rw [he] at h
        simp only at h
        cases hk : okRead ms base i L (readsOf (evT s.T) o.op) with
        | false => rw [hk] at h; exact h.elim
        | true =>
          rw [hk] at h
          obtain ⟨h1, h2⟩ := all_split h
          exact more _ (.imm c v hw he hk h1) h2
      | new c v ob =>
        rw [he] at h
        simp only at h
        cases hk : okRead ms base i L (readsOf (evT s.T) o.op) with
        | false => rw [hk] at h; exact h.elim
        | true =>
          rw [hk] at h
          obtain ⟨h1, h2⟩ := all_split h
          exact more _ (.new c v ob hw he hk h1) h2
      | set c b o' =>
        rw [he] at h
        simp only at h
        cases hk : (okRead ms base i L (readsOf (evT s.T) o.op) && okWrite ms i L b && memb b (readsOf (evT s.T) o.op)) with
        | false => rw [hk] at h; exact h.elim
        | true =>
          rw [hk] at h
          simp only [Bool.and_eq_true] at hk
          obtain ⟨h1, h2⟩ := all_split h
          exact more _ (.set c b o' hw he hk.1.1 hk.1.2 hk.2 h1) h2
      | app c b o' n =>
        rw [he] at h
        simp only at h
        cases hk : fullFrom ops ms ops.size i with
        | false => rw [hk] at h; exact h.elim
        | true => rw [hk] at h; exact stop hk h
      | call f args =>
        rw [he] at h
        simp only at h
        have barrier : (cond (fullFrom ops ms ops.size i) (runOps C callF ops κ (o :: r) s) False) → ∃ hs s', Ch C ops ms base i L s hs s' ∧ ((i + hs.length = ops.size ∧ κ s') ∨ (i + hs.length < ops.size ∧ fullFrom ops ms ops.size (i + hs.length) = true ∧ runOps C callF ops κ (ops.toList.drop (i + hs.length)) s')) ∨ (o :: r = [] ∧ κ s) := by
          intro h
          cases hk : fullFrom ops ms ops.size i with
          | false => rw [hk] at h; exact h.elim
          | true => rw [hk] at h; exact stop hk h
        cases hp : C.pur f with
        | none => rw [hp] at h; exact barrier h
        | some q =>
          obtain ⟨ts, F⟩ := q
          rw [hp] at h
          simp only at h
          cases hn : ((args.all fun a => noIds a.ids) && okRead ms base i L (readsOf (evT s.T) o.op)) with
          | false => rw [hn] at h; exact barrier h
          | true =>
            rw [hn, cond_true] at h
            rw [Bool.and_eq_true] at hn
            cases hco : coArgs [] ts args with
            | mk c xs =>
              rw [hco] at h
              cases xs with
              | none => exact h.elim
              | some xs =>
                obtain ⟨h1, h2⟩ := all_split h
                obtain ⟨h3, h4⟩ := all_split h2
                exact more _ (.call f args ts F c xs hw he hp hn.1 hn.2 hco h1 h3) h4
    have hskip : wantAbs ops s.T o = some false → runD C callF ops ms base κ (i + 1) ((i, [], none) :: L) r ⟨putT s.T o.dst (.tup []), s.H⟩ → ∃ hs s', Ch C ops ms base i L s hs s' ∧ ((i + hs.length = ops.size ∧ κ s') ∨ (i + hs.length < ops.size ∧ fullFrom ops ms ops.size (i + hs.length) = true ∧ runOps C callF ops κ (ops.toList.drop (i + hs.length)) s')) ∨ (o :: r = [] ∧ κ s) :=
      fun hw h => more ⟨.tup [], none, [], none⟩ (.skip hw) h
    simp only [runD] at h
    cases hgd : o.guard with
    | none =>
      rw [hgd] at h
      exact hstep (by simp [wantAbs, hgd]) h
    | some q =>
      obtain ⟨j, want⟩ := q
      rw [hgd] at h
      simp only at h
      cases hgo : guardOf ops j with
      | none => rw [hgo] at h; exact h.elim
      | some g =>
        rw [hgo] at h
        simp only at h
        cases hb : s.T.getD g .dead with
        | dead => rw [hb] at h; exact h.elim
        | tup l =>
          rw [hb] at h
          cases l with
          | nil => exact hskip (by simp only [wantAbs, hgd, hgo, hb]) h
          | cons x l => exact h.elim
        | v τ x =>
          rw [hb] at h
          cases τ with
          | bool =>
            have hself : s.T.set g (.v .bool x) = s.T := set_self hb (by simp)
            have hw : wantAbs ops s.T o = some (x == want) := by simp only [wantAbs, hgd, hgo, hb]
            cases x with
            | true =>
              simp only [cond_true] at h
              rw [hself] at h
              cases hxw : (true == want) with
              | true => rw [hxw, cond_true] at h; exact hstep (by rw [hw, hxw]) h
              | false => rw [hxw, cond_false] at h; exact hskip (by rw [hw, hxw]) h
            | false =>
              simp only [cond_false] at h
              rw [hself] at h
              cases hxw : (false == want) with
              | true => rw [hxw, cond_true] at h; exact hstep (by rw [hw, hxw]) h
              | false => rw [hxw, cond_false] at h; exact hskip (by rw [hw, hxw]) h
          | _ => exact h.elim

/-! ### The operations that are done, in the order of the text -/
def mkS (ops : Array Oper) (hs : List HS) (s0 : St) (S : Nat → Bool) : Nat → St
  | 0 => s0
  | n + 1 => cond (S n) (match ops.toList[n]?, hs[n]? with | some o, some h => stepS o h (mkS ops hs s0 S n) | _, _ => mkS ops hs s0 S n) (mkS ops hs s0 S n)

theorem mkS_congr {hs : List HS} {s0 : St} {S S' : Nat → Bool} : ∀ n, (∀ j, j < n → S j = S' j) → mkS ops hs s0 S n = mkS ops hs s0 S' n
  | 0, _ => rfl
  | n + 1, h => by
    simp only [mkS]
    rw [h n (Nat.lt_succ_self n), mkS_congr n fun j hj => h j (Nat.lt_succ_of_lt hj)]
theorem mkS_prefix {hs : List HS} {s0 : St} {i : Nat} : ∀ n, i ≤ n → mkS ops hs s0 (fun j => decide (j < i)) n = mkS ops hs s0 (fun _ => true) i
  | 0, h => by
    have : i = 0 := by omega
    subst this; rfl
  | n + 1, h => by
    by_cases e : i = n + 1
    · subst e
      exact mkS_congr (n + 1) fun j hj => by simp [hj]
    · simp only [mkS]
      rw [show decide (n < i) = false from decide_eq_false (by omega), cond_false]
      exact mkS_prefix n (by omega)

theorem stepS_len (o : Oper) (h : HS) (s : St) : (stepS o h s).T.length = s.T.length ∧ (stepS o h s).H.length = s.H.length := by
  constructor
  · unfold stepS putT
    cases o.dst <;> simp
  · unfold stepS
    cases h.t with
    | none => rfl
    | some q => simp
theorem mkS_len {hs : List HS} {s0 : St} {S : Nat → Bool} : ∀ n, (mkS ops hs s0 S n).T.length = s0.T.length ∧ (mkS ops hs s0 S n).H.length = s0.H.length
  | 0 => ⟨rfl, rfl⟩
  | n + 1 => by
    have ih := mkS_len (hs := hs) (s0 := s0) (S := S) n
    simp only [mkS]
    cases S n with
    | false => exact ih
    | true =>
      rw [cond_true]
      split
      · obtain ⟨h1, h2⟩ := stepS_len _ _ (mkS ops hs s0 S n)
        exact ⟨h1.trans ih.1, h2.trans ih.2⟩
      · exact ih

theorem stepS_T {o : Oper} {h : HS} {s : St} {t : Nat} (hd : o.dst ≠ some t) : (stepS o h s).T[t]? = s.T[t]? := by
  unfold stepS putT
  cases hq : o.dst with
  | none => rfl
  | some d =>
    have : d ≠ t := fun e => hd (by rw [hq, e])
    exact List.getElem?_set_ne this
theorem stepS_T' {o : Oper} {h : HS} {s : St} {t : Nat} (hd : o.dst = some t) : (stepS o h s).T[t]? = if t < s.T.length then some h.r else none := by
  unfold stepS putT
  rw [hd]
  show (s.T.set t h.r)[t]? = _
  rw [List.getElem?_set]
  simp
theorem stepS_H {o : Oper} {h : HS} {s : St} {b : Nat} (hd : ∀ ob, h.t ≠ some (b, ob)) : (stepS o h s).H[b]? = s.H[b]? := by
  unfold stepS
  cases hq : h.t with
  | none => rfl
  | some q =>
    obtain ⟨c, ob⟩ := q
    have : c ≠ b := fun e => hd ob (by rw [hq, e])
    exact List.getElem?_set_ne this
theorem stepS_H' {o : Oper} {h : HS} {s : St} {b : Nat} {ob : HObj} (hd : h.t = some (b, ob)) : (stepS o h s).H[b]? = if b < s.H.length then some ob else none := by
  unfold stepS
  rw [hd]
  show (s.H.set b ob)[b]? = _
  rw [List.getElem?_set]
  simp

theorem mkT_agree {hs : List HS} {s0 : St} {S S' : Nat → Bool} {t : Nat} : ∀ n, (∀ j o h, j < n → ops.toList[j]? = some o → hs[j]? = some h → o.dst = some t → S j = S' j) → (mkS ops hs s0 S n).T[t]? = (mkS ops hs s0 S' n).T[t]?
  | 0, _ => rfl
  | n + 1, h => by
    have ih := mkT_agree (hs := hs) (s0 := s0) n fun j o x hj => h j o x (Nat.lt_succ_of_lt hj)
    simp only [mkS]
    cases ho : ops.toList[n]? with
    | none => simp only; cases S n <;> cases S' n <;> exact ih
    | some o =>
      cases hh : hs[n]? with
      | none => simp only; cases S n <;> cases S' n <;> exact ih
      | some x =>
        simp only
        by_cases hd : o.dst = some t
        · rw [h n o x (Nat.lt_succ_self n) ho hh hd]
          cases S' n with
          | false => exact ih
          | true =>
            simp only [cond_true]
            rw [stepS_T' hd, stepS_T' hd, (mkS_len n).1, (mkS_len n).1]
        · have e1 := stepS_T (h := x) (s := mkS ops hs s0 S n) hd
          have e2 := stepS_T (h := x) (s := mkS ops hs s0 S' n) hd
          cases S n <;> cases S' n <;> simp only [cond_true, cond_false, e1, e2] <;> exact ih
theorem mkH_agree {hs : List HS} {s0 : St} {S S' : Nat → Bool} {b : Nat} : ∀ n, (∀ j h ob, j < n → hs[j]? = some h → h.t = some (b, ob) → S j = S' j) → (mkS ops hs s0 S n).H[b]? = (mkS ops hs s0 S' n).H[b]?
  | 0, _ => rfl
  | n + 1, h => by
    have ih := mkH_agree (hs := hs) (s0 := s0) n fun j x ob hj => h j x ob (Nat.lt_succ_of_lt hj)
    simp only [mkS]
    cases ho : ops.toList[n]? with
    | none => simp only; cases S n <;> cases S' n <;> exact ih
    | some o =>
      cases hh : hs[n]? with
      | none => simp only; cases S n <;> cases S' n <;> exact ih
      | some x =>
        simp only
        by_cases hd : ∃ ob, x.t = some (b, ob)
        · obtain ⟨ob, hd⟩ := hd
          rw [h n x ob (Nat.lt_succ_self n) hh hd]
          cases S' n with
          | false => exact ih
          | true =>
            simp only [cond_true]
            rw [stepS_H' hd, stepS_H' hd, (mkS_len n).2, (mkS_len n).2]
        · have hd' : ∀ ob, x.t ≠ some (b, ob) := fun ob e => hd ⟨ob, e⟩
          have e1 := stepS_H (o := o) (s := mkS ops hs s0 S n) hd'
          have e2 := stepS_H (o := o) (s := mkS ops hs s0 S' n) hd'
          cases S n <;> cases S' n <;> simp only [cond_true, cond_false, e1, e2] <;> exact ih

def ins (S : Nat → Bool) (i j : Nat) : Bool := decide (j = i) || S j

theorem mkT_last {hs : List HS} {s0 : St} {S : Nat → Bool} {i t : Nat} {o : Oper} {h : HS} (ho : ops.toList[i]? = some o) (hh : hs[i]? = some h) (hd : o.dst = some t) (hS : S i = true) : ∀ n, i < n → (∀ j o', i < j → j < n → ops.toList[j]? = some o' → o'.dst = some t → S j = false) →
    (mkS ops hs s0 S n).T[t]? = if t < s0.T.length then some h.r else none
  | 0, hi, _ => by omega
  | n + 1, hi, hl => by
    simp only [mkS]
    by_cases e : i = n
    · subst e
      rw [hS, cond_true, ho, hh]
      simp only
      rw [stepS_T' hd, (mkS_len i).1]
    · have ih := mkT_last (s0 := s0) ho hh hd hS n (by omega) fun j o' h1 h2 => hl j o' h1 (by omega)
      cases hSn : S n with
      | false => exact ih
      | true =>
        rw [cond_true]
        cases ho' : ops.toList[n]? with
        | none => exact ih
        | some o' =>
          cases hh' : hs[n]? with
          | none => exact ih
          | some h' =>
            simp only
            rw [stepS_T (fun e' => by rw [hl n o' (by omega) (Nat.lt_succ_self n) ho' e'] at hSn; cases hSn)]
            exact ih
theorem mkH_last {hs : List HS} {s0 : St} {S : Nat → Bool} {i b : Nat} {o : Oper} {h : HS} {ob : HObj} (ho : ops.toList[i]? = some o) (hh : hs[i]? = some h) (hd : h.t = some (b, ob)) (hS : S i = true) : ∀ n, i < n → (∀ j h' ob', i < j → j < n → hs[j]? = some h' → h'.t = some (b, ob') → S j = false) →
    (mkS ops hs s0 S n).H[b]? = if b < s0.H.length then some ob else none
  | 0, hi, _ => by omega
  | n + 1, hi, hl => by
    simp only [mkS]
    by_cases e : i = n
    · subst e
      rw [hS, cond_true, ho, hh]
      simp only
      rw [stepS_H' hd, (mkS_len i).2]
    · have ih := mkH_last (s0 := s0) ho hh hd hS n (by omega) fun j h' ob' h1 h2 => hl j h' ob' h1 (by omega)
      cases hSn : S n with
      | false => exact ih
      | true =>
        rw [cond_true]
        cases ho' : ops.toList[n]? with
        | none => exact ih
        | some o' =>
          cases hh' : hs[n]? with
          | none => exact ih
          | some h' =>
            simp only
            rw [stepS_H (fun ob' e' => by rw [hl n h' ob' (by omega) (Nat.lt_succ_self n) hh' e'] at hSn; cases hSn)]
            exact ih

/-- One more is done. -/
theorem mkS_ins {hs : List HS} {s0 : St} {S : Nat → Bool} {i n : Nat} {o : Oper} {h : HS} (ho : ops.toList[i]? = some o) (hh : hs[i]? = some h) (hi : i < n) (hS : S i = false)
    (hT : ∀ t j o', o.dst = some t → i < j → j < n → ops.toList[j]? = some o' → o'.dst = some t → S j = false) (hH : ∀ b ob j h' ob', h.t = some (b, ob) → i < j → j < n → hs[j]? = some h' → h'.t = some (b, ob') → S j = false) :
    mkS ops hs s0 (ins S i) n = stepS o h (mkS ops hs s0 S n) := by
  have hne : ∀ j, j ≠ i → ins S i j = S j := fun j hj => by simp [ins, hj]
  have hins : ins S i i = true := by simp [ins]
  have e1 : (mkS ops hs s0 (ins S i) n).T = (stepS o h (mkS ops hs s0 S n)).T := by
    apply List.ext_getElem?
    intro t
    by_cases hd : o.dst = some t
    · rw [mkT_last ho hh hd hins n hi fun j o' h1 h2 h3 h4 => by rw [hne j (by omega)]; exact hT t j o' hd h1 h2 h3 h4, stepS_T' hd, (mkS_len n).1]
    · rw [stepS_T hd]
      refine mkT_agree n fun j o' h' hj ho' _ hd' => hne j fun e => ?_
      subst e
      rw [ho] at ho'
      cases ho'
      exact hd hd'
  have e2 : (mkS ops hs s0 (ins S i) n).H = (stepS o h (mkS ops hs s0 S n)).H := by
    apply List.ext_getElem?
    intro b
    by_cases hd : ∃ ob, h.t = some (b, ob)
    · obtain ⟨ob, hd⟩ := hd
      rw [mkH_last ho hh hd hins n hi fun j h' ob' h1 h2 h3 h4 => by rw [hne j (by omega)]; exact hH b ob j h' ob' hd h1 h2 h3 h4, stepS_H' hd, (mkS_len n).2]
    · rw [stepS_H fun ob e => hd ⟨ob, e⟩]
      refine mkH_agree n fun j h' ob' hj hh' hd' => hne j fun e => ?_
      subst e
      rw [hh] at hh'
      cases hh'
      exact hd ⟨ob', hd'⟩
  cases hx : mkS ops hs s0 (ins S i) n with
  | mk T H =>
    cases hy : stepS o h (mkS ops hs s0 S n) with
    | mk T' H' =>
      rw [hx, hy] at e1 e2
      simp only at e1 e2
      rw [e1, e2]

/-- What each did. -/
theorem ch_facts {s0 : St} {all : List HS} : ∀ (hs : List HS) (i : Nat) (L : Log) (s s' : St), Ch C ops ms base i L s hs s' → all.drop i = hs → i ≤ all.length → s = mkS ops all s0 (fun _ => true) i → (∀ j h, j < i → all[j]? = some h → (j, h.rd, h.wr) ∈ L) →
    s' = mkS ops all s0 (fun _ => true) all.length ∧ ∀ j h, i ≤ j → all[j]? = some h → ∃ o L, ops.toList[j]? = some o ∧ Did C ops ms base j L (mkS ops all s0 (fun _ => true) j) o h ∧ ∀ k h', k < j → all[k]? = some h' → (k, h'.rd, h'.wr) ∈ L
  | [], i, L, s, s', hc, hd, hle, hs, hL => by
    cases hc
    have : all.length ≤ i := List.drop_eq_nil_iff.1 hd
    have e : i = all.length := by omega
    subst e
    refine ⟨hs, fun j h hj hh => ?_⟩
    have := (List.getElem?_eq_some_iff.1 hh).1
    omega
  | x :: hs, i, L, s, s', hc, hd, hle, he, hL => by
    cases hc with
    | cons _ _ _ o _ _ _ ho hdid hc =>
      have hx : all[i]? = some x := by
        have := List.getElem?_drop (xs := all) (i := i) (j := 0)
        rw [hd] at this
        simpa using this.symm
      have hlt := (List.getElem?_eq_some_iff.1 hx).1
      have hd' : all.drop (i + 1) = hs := by
        rw [← List.drop_drop, hd]
        rfl
      have he' : stepS o x s = mkS ops all s0 (fun _ => true) (i + 1) := by
        simp only [mkS, cond_true, ho, hx, he]
      obtain ⟨h1, h2⟩ := ch_facts hs (i + 1) _ _ s' hc hd' hlt he' (by
        intro j h hj hh
        by_cases e : j = i
        · subst e
          rw [hx] at hh
          cases hh
          exact List.mem_cons_self ..
        · exact List.mem_cons_of_mem _ (hL j h (by omega) hh))
      refine ⟨h1, fun j h hj hh => ?_⟩
      by_cases e : j = i
      · subst e
        rw [hx] at hh
        cases hh
        exact ⟨o, L, ho, by rw [← he]; exact hdid, hL⟩
      · exact h2 j h (by omega) hh
end
end Go.Proofs.Ytdjdbjcapenjeaa.Dx

/- Statements whose order Go leaves open: any order. -/
namespace Go.Proofs.Ytdjdbjcapenjeaa.Dx
open Go Go.RowKit
set_option linter.unusedVariables false
set_option linter.unusedSimpArgs false
section
variable {B : Base} {I : Nat → Option Obj} {ρ : Nat → Place} {H : List HObj} {w : World} {P : Program} {C : Ctx} {E : En}

/-- A new object in a place that was kept for it. -/
theorem Inv.fill (h : Inv B I ρ H w) {w' : World} {pl : Place} {ob : HObj} {id : Nat} (hid : H[id]? = some .dead) (hρ : ρ id = .none) (hm : Moved w w' none) (hp : pl ≠ .none) (hg : ∀ g c s, pl = .blk g c s → w.heap.size ≤ g ∧ g < w'.heap.size)
    (ho : HRel I (upd ρ id pl) w' id ob) : Inv B I (upd ρ id pl) (H.set id ob) w' := by
  have hfar := h.moved_far hm (fun _ e => by cases e) (fun _ e => by cases e)
  have hag : Agree ρ (upd ρ id pl) := agree_id hρ pl
  have hlt := (List.getElem?_eq_some_iff.1 hid).1
  refine ⟨hfar.1, h.dis, hfar.2, ?_, ?_, ?_, ?_, hm.os.trans h.os, hm.tape.trans h.tape, hm.output.trans h.output, Nat.le_trans h.size hm.size⟩
  · intro i o hi
    rcases getElem?_set_some hi with ⟨hne, hi'⟩ | ⟨rfl, rfl, _⟩
    · cases hl : o.live with
      | false => cases o <;> first | trivial | (simp [HObj.live] at hl)
      | true => exact hRel_keep (Sub.refl I) hag (upd_ne _ _ hne) (fun g c s hb => hm.far g (h.sep i o hi' hl g c s hb).2.2 (by simp)) (h.own i o hi')
    · exact ho
  · intro i o hi hl g c s hb
    rcases getElem?_set_some hi with ⟨hne, hi'⟩ | ⟨rfl, rfl, _⟩
    · rw [upd_ne _ _ hne] at hb
      obtain ⟨h1, h2, h3⟩ := h.sep i o hi' hl g c s hb
      exact ⟨h1, h2, Nat.lt_of_lt_of_le h3 hm.size⟩
    · rw [upd_same] at hb
      obtain ⟨h1, h2⟩ := hg g c s hb
      refine ⟨?_, ?_, h2⟩
      · cases he : I g with
        | none => rfl
        | some o => exact absurd (h.ilt he) (by omega)
      · cases he : B.Z g with
        | none => rfl
        | some o => exact absurd (h.zlt he) (by omega)
  · intro i j oi oj hi hj li lj g c s c' s' hbi hbj
    rcases getElem?_set_some hi with ⟨hni, hi'⟩ | ⟨rfl, rfl, _⟩ <;> rcases getElem?_set_some hj with ⟨hnj, hj'⟩ | ⟨rfl, rfl, _⟩
    · rw [upd_ne _ _ hni] at hbi
      rw [upd_ne _ _ hnj] at hbj
      exact h.inj i j oi oj hi' hj' li lj g c s c' s' hbi hbj
    · rw [upd_ne _ _ hni] at hbi
      rw [upd_same] at hbj
      have h1 := (h.sep i oi hi' li g c s hbi).2.2
      have h2 := (hg g c' s' hbj).1
      omega
    · rw [upd_ne _ _ hnj] at hbj
      rw [upd_same] at hbi
      have h1 := (h.sep j oj hj' lj g c' s' hbj).2.2
      have h2 := (hg g c s hbi).1
      omega
    · rfl
  · intro b hb
    rw [List.length_set] at hb
    rw [upd_ne _ _ (by omega)]
    exact h.fresh b hb

/-- Places kept for new objects. -/
theorem Inv.pad (h : Inv B I ρ H w) (n : Nat) : Inv B I ρ (H ++ List.replicate n .dead) w := by
  have hold : ∀ (i : Nat) (o : HObj), (H ++ List.replicate n .dead)[i]? = some o → o.live = true → H[i]? = some o := by
    intro i o hi hl
    by_cases hlt : i < H.length
    · rw [List.getElem?_append_left hlt] at hi; exact hi
    · rw [List.getElem?_append_right (by omega), List.getElem?_replicate] at hi
      split at hi
      · cases hi; cases hl
      · cases hi
  refine ⟨h.imm, h.dis, h.frm, fun i o hi => ?_, fun i o hi hl => h.sep i o (hold i o hi hl) hl, fun i j oi oj hi hj li lj => h.inj i j oi oj (hold i oi hi li) (hold j oj hj lj) li lj, fun b hb => h.fresh b (by rw [List.length_append] at hb; omega), h.os, h.tape, h.output, h.size⟩
  cases hl : o.live with
  | false => cases o <;> first | trivial | (simp [HObj.live] at hl)
  | true => exact h.own i o (hold i o hi hl)

theorem pure_ok {f : FuncId} {F : List AV → PV} (hsp : SoundP P f F) (hinv : Inv B I ρ H w) {xs : List AV} {vals : Array Value} (hx : AVs I (small [] ρ) xs vals.toList) (h3 : AllP (F xs).1) :
    Calls P f vals w fun e w' => ∃ v J, e = .returned v ∧ Sub I J ∧ AVRel J ρ (F xs).2 v ∧ Inv B J ρ H w' := by
  have hsm := inv_small hinv (l := []) List.nodup_nil rfl
  refine (hsp xs h3 _ I _ w vals hsm hx).mono ?_
  rintro e w' ⟨v, J, rfl, hs, hv, hj⟩
  obtain ⟨g1, g2, g3⟩ := inv_back hinv (l := []) List.nodup_nil rfl hs hj (Kept.refl _ _) (rows := fun _ => false) (fun _ => rfl) (lone := true) (fun _ o ho => by cases ho)
  have hst : setAll (H.map (HObj.kill fun _ => false)) [] (([] : List HObj).map (HObj.ren (backN [] H.length))) = H := by
    show H.map (HObj.kill fun _ => false) = H
    exact map_kill_none H
  rw [cond_true] at g1 g2
  simp only [List.take_nil] at g1 g2
  rw [hst] at g1 g2
  have hfun : after [] H.length true ρ (small [] ρ) = ρ := by
    funext j
    unfold after
    rw [if_neg (by simp)]
    split
    · rfl
    · exact (hinv.fresh j (by omega)).symm
  rw [hfun] at g1
  exact ⟨v, J, rfl, hs, avRel_mono (Sub.refl J) (namesAV_none (avRel_used hv)) hv, g1⟩

variable {ops : Array Oper}

theorem bit_lt {ms : List Nat} (hm : maskOK ops ms = true) : ∀ i, i < ops.size → ∀ j, j < ops.size → bitAt ms i j = true → j < i := by
  intro i
  induction i using Nat.strongRecOn with
  | _ i ih =>
    intro hi j hj hb
    have h1 := List.all_eq_true.1 hm i (List.mem_range.2 hi)
    have hget : ops.toList[i]? = some ops[i] := by rw [Array.getElem?_toList]; exact Array.getElem?_eq_getElem hi
    rw [hget] at h1
    simp only [Bool.and_eq_true] at h1
    have h2 := List.all_eq_true.1 h1.2 j (List.mem_range.2 hj)
    rw [hb] at h2
    simp only [Bool.not_true, Bool.false_or] at h2
    obtain ⟨e, he, h3⟩ := Array.any_eq_true'.1 h2
    simp only [Bool.and_eq_true, Bool.or_eq_true] at h3
    have h4 := Array.all_eq_true'.1 h1.1 e he
    rw [h3.1] at h4
    simp only [Bool.not_true, Bool.false_or] at h4
    have h5 := Nat.le_of_ble_eq_true (show Nat.ble (e.on + 1) i = true from h4)
    rcases h3.2 with h | h
    · have := Nat.eq_of_beq_eq_true h; omega
    · have := ih e.on (by omega) (by omega) j hj h; omega

/-- What comes up has all that it hangs on behind it. -/
theorem ready_bits {ms : List Nat} (hm : maskOK ops ms = true) {S : Nat → Bool} (hcl : ∀ i, i < ops.size → S i = true → ∀ j, j < ops.size → bitAt ms i j = true → S j = true) {i : Nat} {o : Oper} (ho : ops[i]? = some o) (hr : ∀ e ∈ o.after, Region.binds .any e = true → S e.on = true) :
    ∀ j, j < ops.size → bitAt ms i j = true → S j = true := by
  intro j hj hb
  have hi := (Array.getElem?_eq_some_iff.1 ho).1
  have h1 := List.all_eq_true.1 hm i (List.mem_range.2 hi)
  rw [Array.getElem?_toList, ho] at h1
  simp only [Bool.and_eq_true] at h1
  have h2 := List.all_eq_true.1 h1.2 j (List.mem_range.2 hj)
  rw [hb] at h2
  simp only [Bool.not_true, Bool.false_or] at h2
  obtain ⟨e, he, h3⟩ := Array.any_eq_true'.1 h2
  simp only [Bool.and_eq_true, Bool.or_eq_true] at h3
  have hS := hr e he h3.1
  rcases h3.2 with h | h
  · have := Nat.eq_of_beq_eq_true h; subst this; exact hS
  · have h4 := Array.all_eq_true'.1 h1.1 e he
    rw [h3.1] at h4
    simp only [Bool.not_true, Bool.false_or] at h4
    have h5 := Nat.le_of_ble_eq_true (show Nat.ble (e.on + 1) i = true from h4)
    exact hcl e.on (by omega) hS j hj h

theorem names_ord {ms : List Nat} (hn : namesOK ops ms = true) {i j : Nat} {x y : Oper} (hx : ops.toList[i]? = some x) (hy : ops.toList[j]? = some y) (hij : i < j) (hc : clash ops x y = true) : bitAt ms j i = true := by
  have hj : j < ops.size := by
    have := (List.getElem?_eq_some_iff.1 hy).1
    simpa using this
  have h1 := List.all_eq_true.1 (List.all_eq_true.1 hn j (List.mem_range.2 hj)) i (List.mem_range.2 hij)
  rw [hx, hy] at h1
  simp only [hc, Bool.not_true, Bool.false_or] at h1
  exact h1

theorem getD_of {T T' : List AV} {t : Nat} (h : T[t]? = T'[t]?) : T.getD t .dead = T'.getD t .dead := by
  rw [List.getD_eq_getElem?_getD, List.getD_eq_getElem?_getD, h]

/-- The state behind the operations of S. -/
def Mid (E : En) (hs : List HS) (ops : Array Oper) (s0 : St) (base : Nat) (S : Nat → Bool) (a : Act) (w : World) : Prop :=
  ∃ I ρ, Sub E.I I ∧ TRel I ρ (mkS ops hs s0 S hs.length).T a ∧ Inv E.B I ρ (mkS ops hs s0 S hs.length).H w ∧ Kept E.H E.ρ (mkS ops hs s0 S hs.length).H ρ ∧ ∀ i, i < ops.size → S i = false → ρ (base + i) = .none

theorem mid_step (hTab : TabOK C P) (hP : ∀ g ts F, C.pur g = some (ts, F) → SoundP P g F) {ms : List Nat} {base : Nat} (hm : maskOK ops ms = true) (hn : namesOK ops ms = true) {s0 : St} {hs : List HS}
    (hfacts : ∀ j h, hs[j]? = some h → ∃ o L, ops.toList[j]? = some o ∧ Did C ops ms base j L (mkS ops hs s0 (fun _ => true) j) o h ∧ ∀ k h', k < j → hs[k]? = some h' → (k, h'.rd, h'.wr) ∈ L)
    (hdead : ∀ i, i < ops.size → s0.H[base + i]? = some .dead) (hbase : E.H.length ≤ base) (hlenops : hs.length ≤ ops.size)
    {S : Nat → Bool} (hcl : ∀ i, i < ops.size → S i = true → ∀ j, j < ops.size → bitAt ms i j = true → S j = true) {i : Nat} (hi : i < hs.length) (hSi : S i = false) (hbits : ∀ j, j < ops.size → bitAt ms i j = true → S j = true)
    {a : Act} {w : World} (hmid : Mid E hs ops s0 base S a w) (Q : Exit → Act → World → Prop) : wpOp P ops Q i (Mid E hs ops s0 base (ins S i)) a w := by
  have hin : i < ops.size := by omega
  obtain ⟨h, hh⟩ : ∃ h, hs[i]? = some h := ⟨hs[i], List.getElem?_eq_getElem hi⟩
  obtain ⟨o, L, ho, hdid, hlog⟩ := hfacts i h hh
  have hoa : ops[i]? = some o := by rw [← Array.getElem?_toList]; exact ho
  -- what is behind i is not done
  have hlater : ∀ j, j < ops.size → bitAt ms j i = true → S j = false := by
    intro j hj hb
    cases hSj : S j with
    | false => rfl
    | true => have := hcl j hj hSj i hin hb; rw [hSi] at this; cases this
  obtain ⟨I, ρ, hI, hT, hinv, hk, hnone⟩ := hmid
  -- the slots that it names
  have hslot : ∀ t, t ∈ namesOf ops o → (mkS ops hs s0 S hs.length).T.getD t .dead = (mkS ops hs s0 (fun _ => true) i).T.getD t .dead := by
    intro t ht
    refine getD_of ?_
    rw [← mkS_prefix hs.length (Nat.le_of_lt hi)]
    refine mkT_agree hs.length fun j o' h' hj ho' hh' hd => ?_
    rcases Nat.lt_trichotomy j i with hji | hji | hji
    · have hc : clash ops o' o = true := by
        unfold clash
        rw [hd]
        simp only
        rw [memb_iff.2 ht]
        rfl
      rw [hbits j (by omega) (names_ord hn ho' ho hji hc)]
      simp [hji]
    · subst hji
      rw [hSi]
      simp
    · have hc : clash ops o o' = true := by
        unfold clash
        rw [hd]
        simp only
        rw [memb_iff.2 ht, Bool.or_true]
      rw [hlater j (by omega) (names_ord hn ho ho' hji hc)]
      simp; omega
  -- is it wanted
  have hwant : ∀ b, wantAbs ops (mkS ops hs s0 (fun _ => true) i).T o = some b → Region.wanted o (yielded ops a.tmps) = b := by
    intro b hb
    unfold wantAbs at hb
    cases hgd : o.guard with
    | none => rw [hgd] at hb; cases hb; simp [Region.wanted, hgd]
    | some q =>
      obtain ⟨j, want⟩ := q
      rw [hgd] at hb
      simp only at hb
      cases hgo : guardOf ops j with
      | none => rw [hgo] at hb; cases hb
      | some g =>
        rw [hgo] at hb
        simp only at hb
        have hgn : g ∈ namesOf ops o := by
          unfold namesOf
          rw [hgd]
          simp [hgo]
        rw [← hslot g hgn] at hb
        split at hb
        · rename_i b' hb'
          cases hb
          have := yielded_of hT hgo hb'
          simp [Region.wanted, hgd, this]
        · rename_i hb'
          cases hb
          have := yielded_none hT hgo hb'
          simp [Region.wanted, hgd, this]
        · cases hb
  -- what comes next in the order of the text
  have hnext : mkS ops hs s0 (ins S i) hs.length = stepS o h (mkS ops hs s0 S hs.length) := by
    refine mkS_ins ho hh hi hSi (fun t j o' hd hij hj ho' hd' => ?_) (fun b ob j h' ob' ht hij hj hh' ht' => ?_)
    · have hc : clash ops o o' = true := by
        unfold clash
        rw [hd]
        simp only
        have : t ∈ namesOf ops o' := by unfold namesOf; rw [hd']; simp
        rw [memb_iff.2 this]
        rfl
      exact hlater j (by omega) (names_ord hn ho ho' hij hc)
    · obtain ⟨o', L', ho', hdid', hlog'⟩ := hfacts j h' hh'
      have hlogi := hlog' i h hij hh
      cases hdid' with
      | skip _ => cases ht'
      | val _ _ _ _ _ => cases ht'
      | imm _ _ _ _ _ _ => cases ht'
      | call _ _ _ _ _ _ _ _ _ _ _ _ _ _ => cases ht'
      | new c v ob2 _ _ hok _ =>
        cases ht'
        -- the block is j's own: i can not have written it
        cases hdid with
        | skip _ => cases ht
        | val _ _ _ _ _ => cases ht
        | imm _ _ _ _ _ _ => cases ht
        | call _ _ _ _ _ _ _ _ _ _ _ _ _ _ => cases ht
        | new c v ob3 _ _ _ _ =>
          simp only [Option.some.injEq, Prod.mk.injEq] at ht
          omega
        | set c b' o'' _ _ hok' _ hmem _ =>
          simp only [Option.some.injEq, Prod.mk.injEq] at ht
          obtain ⟨rfl, _⟩ := ht
          unfold okRead at hok'
          rw [Bool.and_eq_true] at hok'
          have := List.all_eq_true.1 hok'.1 (base + j) (memb_iff.1 hmem)
          have hb : Nat.blt (base + j) base = false := by
            cases hq : Nat.blt (base + j) base with
            | false => rfl
            | true => have := Nat.le_of_ble_eq_true (show Nat.ble (base + j + 1) base = true from hq); omega
          rw [hb, Bool.false_or, Nat.add_sub_cancel_left] at this
          have := bit_lt hm i hin j (by omega) this
          omega
      | set c b' o'' _ _ hok _ hmem _ =>
        simp only [Option.some.injEq, Prod.mk.injEq] at ht'
        obtain ⟨rfl, _⟩ := ht'
        unfold okRead at hok
        rw [Bool.and_eq_true] at hok
        refine hlater j (by omega) ?_
        cases hdid with
        | skip _ => cases ht
        | val _ _ _ _ _ => cases ht
        | imm _ _ _ _ _ _ => cases ht
        | call _ _ _ _ _ _ _ _ _ _ _ _ _ _ => cases ht
        | new c v ob3 _ _ _ _ =>
          simp only [Option.some.injEq, Prod.mk.injEq] at ht
          obtain ⟨rfl, _⟩ := ht
          have := List.all_eq_true.1 hok.1 (base + i) (memb_iff.1 hmem)
          have hb : Nat.blt (base + i) base = false := by
            cases hq : Nat.blt (base + i) base with
            | false => rfl
            | true => have := Nat.le_of_ble_eq_true (show Nat.ble (base + i + 1) base = true from hq); omega
          rw [hb, Bool.false_or, Nat.add_sub_cancel_left] at this
          exact this
        | set c2 b2 o2 _ _ _ _ _ _ =>
          simp only [Option.some.injEq, Prod.mk.injEq] at ht
          obtain ⟨rfl, _⟩ := ht
          have := List.all_eq_true.1 hok.2 _ hlogi
          simp only [hmem, Bool.not_true, Bool.false_or] at this
          exact this
  -- what it looks into
  have hblocks : okRead ms base i L h.rd = true → (∀ b, h.wr = some b → b ∈ h.rd) → ∀ b ∈ h.rd, (mkS ops hs s0 S hs.length).H[b]? = (mkS ops hs s0 (fun _ => true) i).H[b]? := by
    intro hok hwr b hb
    rw [← mkS_prefix hs.length (Nat.le_of_lt hi)]
    refine mkH_agree hs.length fun j h' ob hj hh' ht => ?_
    unfold okRead at hok
    rw [Bool.and_eq_true] at hok
    have hnew : b = base + j → bitAt ms i j = true := fun e => by
      have := List.all_eq_true.1 hok.1 b hb
      have hbl : Nat.blt b base = false := by
        cases hq : Nat.blt b base with
        | false => rfl
        | true => have := Nat.le_of_ble_eq_true (show Nat.ble (b + 1) base = true from hq); omega
      rw [hbl, Bool.false_or, e, Nat.add_sub_cancel_left] at this
      exact this
    obtain ⟨o', L', ho', hdid', hlog'⟩ := hfacts j h' hh'
    rcases Nat.lt_trichotomy j i with hji | hji | hji
    · have : bitAt ms i j = true := by
        cases hdid' with
        | skip _ => cases ht
        | val _ _ _ _ _ => cases ht
        | imm _ _ _ _ _ _ => cases ht
        | call _ _ _ _ _ _ _ _ _ _ _ _ _ _ => cases ht
        | new c v ob2 _ _ _ _ =>
          simp only [Option.some.injEq, Prod.mk.injEq] at ht
          exact hnew ht.1.symm
        | set c b2 o2 _ _ _ _ _ _ =>
          simp only [Option.some.injEq, Prod.mk.injEq] at ht
          obtain ⟨rfl, _⟩ := ht
          have hl := hlog j _ hji hh'
          have := List.all_eq_true.1 hok.2 _ hl
          simp only [memb_iff.2 hb, Bool.not_true, Bool.false_or] at this
          exact this
      rw [hbits j (by omega) this]
      simp [hji]
    · subst hji
      rw [hSi]
      simp
    · have hSj : S j = false := by
        cases hdid' with
        | skip _ => cases ht
        | val _ _ _ _ _ => cases ht
        | imm _ _ _ _ _ _ => cases ht
        | call _ _ _ _ _ _ _ _ _ _ _ _ _ _ => cases ht
        | new c v ob2 _ _ _ _ =>
          simp only [Option.some.injEq, Prod.mk.injEq] at ht
          have := bit_lt hm i hin j (by omega) (hnew ht.1.symm)
          omega
        | set c b2 o2 _ _ _ hokw _ _ =>
          simp only [Option.some.injEq, Prod.mk.injEq] at ht
          obtain ⟨rfl, _⟩ := ht
          unfold okWrite at hokw
          have := List.all_eq_true.1 hokw _ (hlog' i h hji hh)
          simp only [memb_iff.2 hb, Bool.not_true, Bool.false_or] at this
          exact hlater j (by omega) this
      rw [hSj]
      simp; omega
  -- its operands
  let ev' : Operand → AV := fun x => match x with
    | .tmp t => cond (memb t (namesOf ops o)) (evT (mkS ops hs s0 (fun _ => true) i).T (.tmp t)) .dead
    | x => evT (mkS ops hs s0 (fun _ => true) i).T x
  have hev : ∀ x, AVRel I ρ (ev' x) (a.eval x) := by
    intro x
    cases x with
    | tmp t =>
      show AVRel I ρ (cond (memb t (namesOf ops o)) _ _) _
      cases hmt : memb t (namesOf ops o) with
      | false => trivial
      | true =>
        show AVRel I ρ ((mkS ops hs s0 (fun _ => true) i).T.getD t .dead) _
        rw [← hslot t (memb_iff.1 hmt)]
        exact hT.val t
    | const v => exact evT_ok hT (.const v)
    | global g => trivial
    | func f => exact ref_mk ⟨#[], rfl, rfl⟩
  have hevop : ∀ x ∈ o.op.operands, ev' x = evT (mkS ops hs s0 (fun _ => true) i).T x := by
    intro x hx
    cases x with
    | tmp t =>
      have : t ∈ namesOf ops o := by
        unfold namesOf
        refine List.mem_append_right _ (List.mem_append_left _ (List.mem_filterMap.2 ⟨.tmp t, by simpa using hx, rfl⟩))
      show cond (memb t (namesOf ops o)) _ _ = _
      rw [memb_iff.2 this]
      rfl
    | _ => rfl
  have heff : okRead ms base i L h.rd = true → (∀ b, h.wr = some b → b ∈ h.rd) → h.rd = readsOf (evT (mkS ops hs s0 (fun _ => true) i).T) o.op →
      EffOK P E.B I ρ (mkS ops hs s0 S hs.length).H w (execOp a.eval o) (opEff C (evT (mkS ops hs s0 (fun _ => true) i).T) (mkS ops hs s0 (fun _ => true) i).H o.op) := by
    intro hok hwr hrd
    have h1 := op_eff hTab hinv hev o
    rw [opEff_congr o.op hevop] at h1
    rw [opEff_agree o.op fun b hb => hblocks hok hwr b (by rw [hrd]; exact hb)] at h1
    exact h1
  -- the slot and the block
  have keptS : ∀ {H' : List HObj} {ρ' : Nat → Place}, H'.length = (mkS ops hs s0 S hs.length).H.length → (∀ k, k < base → rowAt H' k = rowAt (mkS ops hs s0 S hs.length).H k) → (∀ k, k < base → ρ' k = ρ k) → Kept E.H E.ρ H' ρ' := by
    intro H' ρ' h1 h2 h3
    refine ⟨by rw [h1]; exact hk.len, fun k hk' hr => ?_, fun k hk' hr => ?_⟩
    · rw [h2 k (by omega)]; exact hk.row k hk' hr
    · rw [h3 k (by omega)]; exact hk.stay k hk' hr
  have hnone' : ∀ j, j < ops.size → ins S i j = false → ρ (base + j) = .none := fun j hj hb => hnone j hj (by
    unfold ins at hb
    rw [Bool.or_eq_false_iff] at hb
    exact hb.2)
  unfold wpOp
  simp only [hoa]
  unfold Mid
  rw [hnext]
  cases hdid with
  | skip hw =>
    rw [hwant _ hw, if_neg (by simp)]
    exact ⟨I, ρ, hI, tRel_put hT o.dst tup_nil, hinv, hk, hnone'⟩
  | val p hw he hok hc =>
    rw [hwant _ hw, if_pos rfl]
    refine .inl ?_
    have h1 := heff hok (fun b hb => by cases hb) rfl
    rw [he] at h1
    obtain ⟨v, h2, h3⟩ := h1 hc
    unfold Oper.wp
    rw [h2]
    exact ⟨I, ρ, hI, tRel_put hT o.dst h3, hinv, hk, hnone'⟩
  | imm c v hw he hok hc =>
    rw [hwant _ hw, if_pos rfl]
    refine .inl ?_
    have h1 := heff hok (fun b hb => by cases hb) rfl
    rw [he] at h1
    obtain ⟨u, w', J, h2, h3, h4, h5⟩ := h1 hc
    unfold Oper.wp
    rw [h2]
    exact ⟨J, ρ, hI.trans h3, tRel_put (tRel_keep h3 (Agree.refl ρ) hT) o.dst h5, h4, hk, hnone'⟩
  | new c v ob hw he hok hc =>
    rw [hwant _ hw, if_pos rfl]
    refine .inl ?_
    have h1 := heff hok (fun b hb => by cases hb) rfl
    rw [he] at h1
    have hid := hnone i hin hSi
    obtain ⟨u, w', pl, h2, g1, g2, g3, g4, g5⟩ := h1 hc (base + i) hid
    unfold Oper.wp
    rw [h2]
    -- nobody has written there yet
    have hdd : (mkS ops hs s0 S hs.length).H[base + i]? = some .dead := by
      have : (mkS ops hs s0 S hs.length).H[base + i]? = (mkS ops hs s0 (fun _ => false) hs.length).H[base + i]? := by
        refine mkH_agree hs.length fun j h' ob' hj hh' ht => ?_
        obtain ⟨o', L', ho', hdid', hlog'⟩ := hfacts j h' hh'
        show S j = false
        cases hdid' with
        | skip _ => cases ht
        | val _ _ _ _ _ => cases ht
        | imm _ _ _ _ _ _ => cases ht
        | call _ _ _ _ _ _ _ _ _ _ _ _ _ _ => cases ht
        | new c v ob2 _ _ _ _ =>
          simp only [Option.some.injEq, Prod.mk.injEq] at ht
          have : j = i := by omega
          rw [this]; exact hSi
        | set c b2 o2 _ _ hok2 _ hmem2 _ =>
          simp only [Option.some.injEq, Prod.mk.injEq] at ht
          obtain ⟨rfl, _⟩ := ht
          unfold okRead at hok2
          rw [Bool.and_eq_true] at hok2
          have := List.all_eq_true.1 hok2.1 (base + i) (memb_iff.1 hmem2)
          have hb : Nat.blt (base + i) base = false := by
            cases hq : Nat.blt (base + i) base with
            | false => rfl
            | true => have := Nat.le_of_ble_eq_true (show Nat.ble (base + i + 1) base = true from hq); omega
          rw [hb, Bool.false_or, Nat.add_sub_cancel_left] at this
          exact hlater j (by omega) this
      rw [this]
      have hs00 : mkS ops hs s0 (fun _ => false) hs.length = s0 := by
        have : ∀ n, mkS ops hs s0 (fun _ => false) n = s0 := by
          intro n
          induction n with
          | zero => rfl
          | succ n ih => simp only [mkS, cond_false, ih]
        exact this _
      rw [hs00]
      exact hdead i hin
    have hag := agree_id hid pl
    refine ⟨I, _, hI, tRel_put (tRel_keep (Sub.refl I) hag hT) o.dst g5, hinv.fill hdd hid g2 g1 g3 g4, keptS (by simp [stepS]) (fun k hk' => ?_) (fun k hk' => upd_ne _ _ (by omega)), fun j hj hb => ?_⟩
    · show rowAt ((mkS ops hs s0 S hs.length).H.set (base + i) ob) k = _
      unfold rowAt
      rw [List.getElem?_set_ne (by omega)]
    · have hji : j ≠ i := fun e => by subst e; simp [ins] at hb
      rw [upd_ne _ _ (by omega)]
      exact hnone' j hj hb
  | set c b o' hw he hok hokw hmem hc =>
    rw [hwant _ hw, if_pos rfl]
    refine .inl ?_
    have h1 := heff hok (fun b' hb => by cases hb; exact memb_iff.1 hmem) rfl
    rw [he] at h1
    obtain ⟨w', h2, h3, o2, h4, h5⟩ := h1 hc
    unfold Oper.wp
    rw [h2]
    exact ⟨I, ρ, hI, tRel_put hT o.dst tup_nil, h3, keptS (by simp [stepS]) (fun k hk' => rowAt_set h4 h5 k) (fun _ _ => rfl), hnone'⟩
  | call f args ts F c xs hw he hp hn' hok hco hc1 hc2 =>
    rw [hwant _ hw, if_pos rfl]
    refine .inl ?_
    have h1 := heff hok (fun b hb => by cases hb) rfl
    rw [he] at h1
    obtain ⟨vals, h2, h3⟩ := h1
    unfold Oper.wp
    rw [h2]
    have hxs := coArgs_noIds (ρ' := small [] ρ) ts args _ c xs h3 hco hc1 hn'
    refine (pure_ok (hP f ts F hp) hinv hxs hc2).mono ?_
    rintro e w' ⟨v, J, rfl, h4, h5, h6⟩
    exact ⟨J, ρ, hI.trans h4, tRel_put (tRel_keep h4 (Agree.refl ρ) hT) o.dst h5, h6, hk, hnone'⟩

theorem count_ins {S : Nat → Bool} {i : Nat} (hS : S i = false) : ∀ n, i < n → ((List.range n).filter (ins S i)).length = ((List.range n).filter S).length + 1
  | 0, h => by omega
  | n + 1, h => by
    rw [List.range_succ, List.filter_append, List.filter_append, List.length_append, List.length_append]
    by_cases e : i = n
    · subst e
      have h1 : (List.range i).filter (ins S i) = (List.range i).filter S := List.filter_congr fun j hj => by
        have := List.mem_range.1 hj
        unfold ins
        rw [decide_eq_false (by omega)]
        rfl
      rw [h1]
      simp [ins, hS]
    · have ih := count_ins hS n (by omega)
      have h2 : ins S i n = S n := by unfold ins; rw [decide_eq_false (fun e' => e e'.symm)]; rfl
      rw [ih]
      simp only [List.filter_cons, List.filter_nil, h2]
      omega
theorem count_full {S : Nat → Bool} : ∀ n, n ≤ ((List.range n).filter S).length → ∀ i, i < n → S i = true
  | 0, _, i, hi => by omega
  | n + 1, h, i, hi => by
    rw [List.range_succ, List.filter_append, List.length_append] at h
    have h1 : ((List.range n).filter S).length ≤ n := by
      have := List.length_filter_le S (List.range n)
      rwa [List.length_range] at this
    have h2 : (List.filter S [n]).length ≤ 1 := List.length_filter_le S [n]
    have h3 : S n = true := by
      cases hq : S n with
      | true => rfl
      | false => simp only [List.filter_cons, hq, List.filter_nil] at h; simp at h; omega
    by_cases e : i = n
    · subst e; exact h3
    · exact count_full n (by omega) i (by omega)

/-- Which operations are behind us. -/
def listedS (listed : Array Bool) (j : Nat) : Bool := listed.getD j false
theorem listedS_set {listed : Array Bool} {i : Nat} (hi : i < listed.size) : listedS (listed.setIfInBounds i true) = ins (listedS listed) i := by
  funext j
  unfold listedS ins
  by_cases e : j = i
  · subst e
    rw [Array.getD_eq_getD_getElem?, Array.getElem?_setIfInBounds_self_of_lt hi]
    simp
  · rw [decide_eq_false e, Bool.false_or]
    exact getD_set_ne false (fun e' => e e'.symm)

theorem any_order (hTab : TabOK C P) {callF : FuncId → CF} (hF : ∀ g, SoundF P g (callF g)) (hP : ∀ g ts F, C.pur g = some (ts, F) → SoundP P g F) {ms : List Nat} {base : Nat} (hm : maskOK ops ms = true) (hn : namesOK ops ms = true) {s0 : St} {hs : List HS}
    (hfacts : ∀ j h, hs[j]? = some h → ∃ o L, ops.toList[j]? = some o ∧ Did C ops ms base j L (mkS ops hs s0 (fun _ => true) j) o h ∧ ∀ k h', k < j → hs[k]? = some h' → (k, h'.rd, h'.wr) ∈ L)
    (hdead : ∀ i, i < ops.size → s0.H[base + i]? = some .dead) (hbase : E.H.length ≤ base) (hlenops : hs.length ≤ ops.size) {κ : St → Prop} {Q : Exit → Act → World → Prop} (hQ : ∀ a w, Lift E κ a w → Q .normal a w)
    (hend : (hs.length = ops.size ∧ κ (mkS ops hs s0 (fun _ => true) hs.length)) ∨ (hs.length < ops.size ∧ fullFrom ops ms ops.size hs.length = true ∧ runOps C callF ops κ (ops.toList.drop hs.length) (mkS ops hs s0 (fun _ => true) hs.length))) :
    ∀ (fuel : Nat) (listed : Array Bool) (a : Act) (w : World), listed.size = ops.size → ops.size ≤ fuel + ((List.range ops.size).filter (listedS listed)).length →
      (∀ i, i < ops.size → listedS listed i = true → ∀ j, j < ops.size → bitAt ms i j = true → listedS listed j = true) →
      (∀ j, j < hs.length → lazyAt ops j = true → listedS listed j = true) →
      ((∀ j, listedS listed j = true → j < hs.length) ∧ Mid E hs ops s0 base (listedS listed) a w) ∨ (∃ m, hs.length < m ∧ m ≤ ops.size ∧ (∀ j, j < ops.size → listedS listed j = decide (j < m)) ∧ wpOps P ops Q (List.range' m (ops.size - m)) a w) →
      wpAny P .any ops Q fuel listed a w := by
  -- all done
  have hdone : ∀ (listed : Array Bool) (a : Act) (w : World), (∀ i, i < ops.size → listedS listed i = true) →
      ((∀ j, listedS listed j = true → j < hs.length) ∧ Mid E hs ops s0 base (listedS listed) a w) ∨ (∃ m, hs.length < m ∧ m ≤ ops.size ∧ (∀ j, j < ops.size → listedS listed j = decide (j < m)) ∧ wpOps P ops Q (List.range' m (ops.size - m)) a w) → Q .normal a w := by
    intro listed a w hall h
    rcases h with ⟨h1, I, ρ, hI, hT, hinv, hk, _⟩ | ⟨m, h1, h2, h3, h4⟩
    · rcases hend with ⟨e1, e2⟩ | ⟨e1, _⟩
      · have : mkS ops hs s0 (listedS listed) hs.length = mkS ops hs s0 (fun _ => true) hs.length := mkS_congr _ fun j hj => hall j (by omega)
        rw [this] at hT hinv hk
        exact hQ a w ⟨_, e2, I, ρ, hI, hT, hinv, hk⟩
      · have := h1 hs.length (hall _ e1)
        omega
    · have : m = ops.size := by
        rcases Nat.lt_or_ge m ops.size with h | h
        · have := h3 m h
          rw [hall m h] at this
          simp at this
        · omega
      subst this
      simpa [wpOps] using h4
  have hunl : ∀ (listed : Array Bool) i, listed.size = ops.size → listed.getD i true = false → listedS listed i = false ∧ i < ops.size := by
    intro listed i hsz h
    rcases Nat.lt_or_ge i listed.size with h' | h'
    · rw [Array.getD_eq_getD_getElem?, Array.getElem?_eq_getElem h'] at h
      refine ⟨?_, by omega⟩
      unfold listedS
      rw [Array.getD_eq_getD_getElem?, Array.getElem?_eq_getElem h']
      exact h
    · rw [Array.getD_eq_getD_getElem?, Array.getElem?_eq_none h'] at h
      cases h
  -- something comes up while something is left
  have hsome : ∀ (listed : Array Bool), listed.size = ops.size → Region.ready .any ops listed = [] → ∀ i, i < ops.size → listedS listed i = true := by
    intro listed hsz hr i
    induction i using Nat.strongRecOn with
    | _ i ih =>
      intro hi
      cases hSi : listedS listed i with
      | true => rfl
      | false =>
        exfalso
        have : i ∈ Region.ready .any ops listed := by
          rw [mem_ready]
          refine ⟨?_, ops[i], Array.getElem?_eq_getElem hi, fun e he hb => ?_⟩
          · unfold listedS at hSi
            rw [Array.getD_eq_getD_getElem?, Array.getElem?_eq_getElem (by omega)] at hSi ⊢
            exact hSi
          · have h1 := List.all_eq_true.1 hm i (List.mem_range.2 hi)
            rw [Array.getElem?_toList, Array.getElem?_eq_getElem hi] at h1
            simp only [Bool.and_eq_true] at h1
            have h4 := Array.all_eq_true'.1 h1.1 e he
            rw [hb] at h4
            simp only [Bool.not_true, Bool.false_or] at h4
            have h5 := Nat.le_of_ble_eq_true (show Nat.ble (e.on + 1) i = true from h4)
            exact ih e.on (by omega) (by omega)
        rw [hr] at this
        cases this
  have hfull : ∀ i, hs.length < ops.size → fullFrom ops ms ops.size hs.length = true → hs.length ≤ i → i < ops.size → ∀ j, j < i → bitAt ms i j = true ∨ (j < hs.length ∧ lazyAt ops j = true) := by
    intro i _ hf h1 h2 j hj
    unfold fullFrom at hf
    have : i ∈ (List.range ops.size).drop hs.length := by
      rw [List.mem_iff_getElem?]
      exact ⟨i - hs.length, by rw [List.getElem?_drop, List.getElem?_range (by omega)]; congr 1; omega⟩
    have hb := List.all_eq_true.1 (List.all_eq_true.1 hf i this) j (List.mem_range.2 hj)
    rw [Bool.or_eq_true, Bool.and_eq_true] at hb
    exact hb.imp id fun q => ⟨Nat.le_of_ble_eq_true (show Nat.ble (j + 1) hs.length = true from q.1), q.2⟩
  intro fuel
  induction fuel with
  | zero =>
    intro listed a w hsz hcnt hcl hL h
    have hall := count_full ops.size (by omega) (S := listedS listed)
    refine ⟨?_, hdone listed a w hall h⟩
    cases hr : Region.ready .any ops listed with
    | nil => rfl
    | cons i r =>
      exfalso
      have : i ∈ Region.ready .any ops listed := by rw [hr]; exact List.mem_cons_self ..
      obtain ⟨h1, h2, h3, _⟩ := mem_ready.1 this
      obtain ⟨h4, h5⟩ := hunl listed i hsz h1
      rw [hall i h5] at h4
      cases h4
  | succ fuel ih =>
    intro listed a w hsz hcnt hcl hL h
    refine ⟨fun hr => hdone listed a w (hsome listed hsz hr) h, fun i hir => ?_⟩
    obtain ⟨h1, o, ho, hedges⟩ := mem_ready.1 hir
    obtain ⟨hSi, hin⟩ := hunl listed i hsz h1
    have hbits := ready_bits hm (S := listedS listed) hcl ho (fun e he hb => hedges e he hb)
    have hset := listedS_set (listed := listed) (i := i) (by omega)
    have hcnt' : ops.size ≤ fuel + ((List.range ops.size).filter (listedS (listed.setIfInBounds i true))).length := by
      rw [hset, count_ins hSi ops.size hin]
      omega
    have hcl' : ∀ k, k < ops.size → listedS (listed.setIfInBounds i true) k = true → ∀ j, j < ops.size → bitAt ms k j = true → listedS (listed.setIfInBounds i true) j = true := by
      intro k hk hSk j hj hb
      rw [hset] at hSk ⊢
      unfold ins at hSk ⊢
      rw [Bool.or_eq_true] at hSk ⊢
      rcases hSk with e | e
      · have : k = i := by simpa using e
        subst this
        exact .inr (hbits j hj hb)
      · exact .inr (hcl k hk e j hj hb)
    have hL' : ∀ j, j < hs.length → lazyAt ops j = true → listedS (listed.setIfInBounds i true) j = true := fun j hj hl => by
      rw [hset]
      unfold ins
      rw [Bool.or_eq_true]
      exact .inr (hL j hj hl)
    have hsz' : (listed.setIfInBounds i true).size = ops.size := by rw [Array.size_setIfInBounds]; exact hsz
    -- the tail, one behind the other
    have tail : ∀ m, hs.length ≤ m → m < ops.size → fullFrom ops ms ops.size hs.length = true → (∀ j, j < ops.size → listedS listed j = decide (j < m)) → wpOps P ops Q (List.range' m (ops.size - m)) a w → wpOp P ops Q i (wpAny P .any ops Q fuel (listed.setIfInBounds i true)) a w := by
      intro m h1 h2 hf h3 h4
      have him : i = m := by
        have hge : m ≤ i := by
          rcases Nat.lt_or_ge i m with h | h
          · have := h3 i hin; rw [hSi] at this; simp [h] at this
          · exact h
        rcases Nat.lt_or_ge m i with h | h
        · have : listedS listed m = true := (hfull i (by omega) hf (by omega) hin m h).elim (hbits m h2) fun q => hL m q.1 q.2
          rw [h3 m h2] at this
          simp at this
        · omega
      subst him
      rw [show ops.size - i = (ops.size - (i + 1)) + 1 by omega, List.range'_succ, wpOps_cons] at h4
      refine wpOp_mono (fun a' w' h5 => ih _ a' w' hsz' hcnt' hcl' hL' (.inr ⟨i + 1, by omega, by omega, fun j hj => ?_, h5⟩)) h4
      rw [hset]
      unfold ins
      rw [h3 j hj]
      by_cases e : j = i
      · subst e; simp
      · by_cases e2 : j < i
        · simp [e, e2]; omega
        · simp [e, e2]; omega
    rcases h with ⟨h2, hmid⟩ | ⟨m, h2, h3, h4, h5⟩
    · by_cases him : i < hs.length
      · refine wpOp_mono (fun a' w' h6 => ih _ a' w' hsz' hcnt' hcl' hL' (.inl ⟨fun j hj => ?_, ?_⟩)) (mid_step hTab hP hm hn hfacts hdead hbase hlenops hcl him hSi hbits hmid Q)
        · rw [hset] at hj
          unfold ins at hj
          rw [Bool.or_eq_true] at hj
          rcases hj with e | e
          · have : j = i := by simpa using e
            omega
          · exact h2 j e
        · rw [hset]; exact h6
      · rcases hend with ⟨e1, _⟩ | ⟨e1, e2, e3⟩
        · omega
        · have hall : ∀ j, j < ops.size → listedS listed j = decide (j < hs.length) := by
            have hi0 : i = hs.length := by
              rcases Nat.lt_or_ge hs.length i with h | h
              · have := h2 _ ((hfull i e1 e2 (by omega) hin hs.length h).elim (hbits hs.length e1) fun q => absurd q.1 (by omega))
                omega
              · omega
            intro j hj
            by_cases hjl : j < hs.length
            · rw [decide_eq_true hjl]
              exact (hfull i e1 e2 (by omega) hin j (by omega)).elim (hbits j hj) fun q => hL j q.1 q.2
            · rw [decide_eq_false hjl]
              cases hSj : listedS listed j with
              | false => rfl
              | true => exact absurd (h2 j hSj) hjl
          obtain ⟨I, ρ, hI, hT, hinv, hk, _⟩ := hmid
          have : mkS ops hs s0 (listedS listed) hs.length = mkS ops hs s0 (fun _ => true) hs.length := mkS_congr _ fun j hj => by rw [hall j (by omega)]; simp [hj]
          rw [this] at hT hinv hk
          have hw := runOps_ok (E := E) (Q := Q) hTab hF hP ops hQ (ops.toList.drop hs.length) hs.length _ a w rfl ⟨I, ρ, hI, hT, hinv, hk⟩ e3
          rw [List.length_drop, Array.length_toList] at hw
          exact tail hs.length (Nat.le_refl _) e1 e2 hall hw
    · rcases hend with ⟨e1, _⟩ | ⟨e1, e2, _⟩
      · omega
      · have hmlt : m < ops.size := by
          rcases Nat.lt_or_ge m ops.size with h | h
          · exact h
          · have := h4 i hin
            rw [hSi] at this
            simp at this
            omega
        exact tail m (by omega) hmlt e2 h4 h5

theorem lazy_spec {i : Nat} (h : lazyAt ops i = true) : ∃ o x, ops[i]? = some o ∧ o.op = .move x ∧ o.guard = none ∧ o.after = #[] ∧
    ∀ j p, ops[j]? = some p → j ≠ i → (∀ e ∈ p.after, Region.binds .any e = true → e.on ≠ i) → o.apart ops p = true := by
  unfold lazyAt at h
  split at h
  · rename_i o ho
    rw [Array.getElem?_toList] at ho
    simp only [Bool.and_eq_true] at h
    obtain ⟨⟨⟨h1, h2⟩, h3⟩, h4⟩ := h
    have h5 : o.guard = none := by
      cases hg : o.guard with
      | none => rfl
      | some q => rw [hg] at h2; cases h2
    have h6 : o.after = #[] := Array.eq_empty_of_size_eq_zero (Nat.eq_of_beq_eq_true h3)
    cases hop : o.op with
    | move x =>
      refine ⟨o, x, ho, hop, h5, h6, fun j p hp hji hno => ?_⟩
      have hj : j < ops.size := (Array.getElem?_eq_some_iff.1 hp).1
      have h7 := List.all_eq_true.1 h4 j (List.mem_range.2 hj)
      rw [Array.getElem?_toList, hp, Bool.or_eq_true, Bool.or_eq_true] at h7
      rcases h7 with h7 | h7 | h7
      · exact absurd (Nat.eq_of_beq_eq_true h7).symm hji
      · obtain ⟨e, he, h8⟩ := Array.any_eq_true'.1 h7
        rw [Bool.and_eq_true] at h8
        exact absurd (Nat.eq_of_beq_eq_true h8.2) (hno e he h8.1)
      · exact h7
    | _ => rw [hop] at h1; cases h1
  · cases h

theorem hoist_ok (hTab : TabOK C P) {callF : FuncId → CF} (hF : ∀ g, SoundF P g (callF g)) (hP : ∀ g ts F, C.pur g = some (ts, F) → SoundP P g F) {ms : List Nat} {base : Nat} (hm : maskOK ops ms = true) (hn : namesOK ops ms = true) (hsel : Region.noSelect ops = true) {s0 : St} {hs : List HS}
    (hfacts : ∀ j h, hs[j]? = some h → ∃ o L, ops.toList[j]? = some o ∧ Did C ops ms base j L (mkS ops hs s0 (fun _ => true) j) o h ∧ ∀ k h', k < j → hs[k]? = some h' → (k, h'.rd, h'.wr) ∈ L)
    (hdead : ∀ i, i < ops.size → s0.H[base + i]? = some .dead) (hbase : E.H.length ≤ base) (hlenops : hs.length ≤ ops.size) {κ : St → Prop} {Q : Exit → Act → World → Prop} (hQ : ∀ a w, Lift E κ a w → Q .normal a w) (hQp : ∀ c a w, ¬ Q (.panic c) a w)
    (hend : (hs.length = ops.size ∧ κ (mkS ops hs s0 (fun _ => true) hs.length)) ∨ (hs.length < ops.size ∧ fullFrom ops ms ops.size hs.length = true ∧ runOps C callF ops κ (ops.toList.drop hs.length) (mkS ops hs s0 (fun _ => true) hs.length))) :
    ∀ (l : List Nat) (fuel : Nat) (listed : Array Bool) (a : Act) (w : World), listed.size = ops.size → ops.size ≤ fuel + ((List.range ops.size).filter (listedS listed)).length →
      (∀ i, i < ops.size → listedS listed i = true → ∀ j, j < ops.size → bitAt ms i j = true → listedS listed j = true) →
      (∀ i ∈ l, i < hs.length ∧ lazyAt ops i = true ∧ listedS listed i = false) → l.Nodup → (∀ j, j < hs.length → lazyAt ops j = true → j ∈ l ∨ listedS listed j = true) →
      (∀ j, listedS listed j = true → j < hs.length) → Mid E hs ops s0 base (listedS listed) a w → wpAny P .any ops Q fuel listed a w
  | [], fuel, listed, a, w, hsz, hcnt, hcl, _, _, hl, hlt, hmid =>
    any_order (E := E) hTab hF hP hm hn hfacts hdead hbase hlenops hQ hend fuel listed a w hsz hcnt hcl (fun j hj h => (hl j hj h).resolve_left (by simp)) (.inl ⟨hlt, hmid⟩)
  | i :: r, fuel, listed, a, w, hsz, hcnt, hcl, hi, hnd, hl, hlt, hmid => by
    obtain ⟨hih, hlz, hSi⟩ := hi i (List.mem_cons_self ..)
    have hin : i < ops.size := by omega
    obtain ⟨o, x, ho, hop, hg, haft, hap⟩ := lazy_spec hlz
    cases fuel with
    | zero =>
      have := count_full ops.size (by omega) (S := listedS listed) i hin
      rw [hSi] at this
      cases this
    | succ fuel =>
      have hset := listedS_set (listed := listed) (i := i) (by omega)
      have hrun : ∀ (a : Act) (w : World), (execOp a.eval o).run P w = .ok (.value (a.eval x)) w := fun a w => by
        obtain ⟨dst, op, ty, pos, after, guard⟩ := o
        dsimp only at hop
        subst hop
        rfl
      have hwant : ∀ a : Act, Region.wanted o (yielded ops a.tmps) = true := fun a => by simp [Region.wanted, hg]
      have hbits := ready_bits hm (S := listedS listed) hcl ho (fun e he hb => by rw [haft] at he; simp at he)
      have hmid' : Mid E hs ops s0 base (listedS (listed.setIfInBounds i true)) (a.put o.dst (a.eval x)) w := by
        rw [hset]
        have := mid_step hTab hP hm hn hfacts hdead hbase hlenops hcl hih hSi hbits hmid (fun _ _ _ => False)
        unfold wpOp at this
        simp only [ho, hwant a, if_true, Oper.wp, hrun a w, Oper.upon] at this
        rcases this with h | ⟨_, a', w', h⟩
        · exact h
        · exact h.elim
      have hready : i ∈ Region.ready .any ops listed := by
        rw [mem_ready]
        refine ⟨?_, o, ho, fun e he _ => by rw [haft] at he; simp at he⟩
        unfold listedS at hSi
        rw [Array.getD_eq_getD_getElem?, Array.getElem?_eq_getElem (by omega)] at hSi ⊢
        exact hSi
      refine wpAny_first ho (fun j o cs b hj => Region.noSelect_spec hsel j o cs b hj) (fun c a w h => absurd h (hQp c _ w)) fuel listed a w (fun j oj hj hji _ hno => hap j oj hj hji hno) hready (.inl ⟨hwant a, fun w => hrun a w⟩) ?_
      refine hoist_ok hTab hF hP hm hn hsel hfacts hdead hbase hlenops hQ hQp hend r fuel _ _ w (by rw [Array.size_setIfInBounds]; exact hsz) (by rw [hset, count_ins hSi ops.size hin]; omega) (fun k hk hSk j hj hb => ?_) (fun k hk => ?_) (List.nodup_cons.1 hnd).2 (fun j hj h => ?_) (fun j hj => ?_) hmid'
      · rw [hset] at hSk ⊢
        unfold ins at hSk ⊢
        rw [Bool.or_eq_true] at hSk ⊢
        rcases hSk with e | e
        · have : k = i := by simpa using e
          subst this
          exact .inr (hbits j hj hb)
        · exact .inr (hcl k hk e j hj hb)
      · obtain ⟨q1, q2, q3⟩ := hi k (List.mem_cons_of_mem _ hk)
        refine ⟨q1, q2, ?_⟩
        rw [hset]
        unfold ins
        have : k ≠ i := fun e => (List.nodup_cons.1 hnd).1 (e ▸ hk)
        rw [q3, decide_eq_false this]; rfl
      · rw [hset]
        unfold ins
        rcases hl j hj h with h' | h'
        · rcases List.mem_cons.1 h' with e | h'
          · exact .inr (by rw [decide_eq_true e]; rfl)
          · exact .inl h'
        · exact .inr (by rw [h', Bool.or_true])
      · rw [hset] at hj
        unfold ins at hj
        rw [Bool.or_eq_true] at hj
        rcases hj with e | e
        · have : j = i := by simpa using e
          omega
        · exact hlt j e

/-- A STATEMENT WHOSE ORDER Go LEAVES OPEN. -/
theorem draw_ok (hTab : TabOK C P) {callF : FuncId → CF} (hF : ∀ g, SoundF P g (callF g)) (hP : ∀ g ts F, C.pur g = some (ts, F) → SoundP P g F) (E : En) (ops : Array Oper) (hc : drawCheck ops = true) (id : Nat) (s : St) (a : Act) (w : World) (k : K) (hg : Good E s a w)
    (h : runD C callF ops (masks ops) s.H.length k.normal 0 [] ops.toList ⟨s.T, s.H ++ List.replicate ops.size .dead⟩) : (Code.region id ops true).wp P (Post E k) a w := by
  unfold drawCheck at hc
  simp only [Bool.and_eq_true] at hc
  obtain ⟨⟨hm, hn⟩, hsel⟩ := hc
  refine wp_region_any hTab.mixed ?_
  obtain ⟨I, ρ, hI, hT, hinv, hk⟩ := hg
  have hpad := (hinv.drewN 1).pad ops.size
  have hkpad : Kept E.H E.ρ (s.H ++ List.replicate ops.size .dead) ρ := kept_step hk (by simp) (fun i hi => by unfold rowAt; rw [List.getElem?_append_left hi]) (fun _ _ _ => rfl)
  obtain ⟨hs, s', hres⟩ := runD_ch ops.toList 0 [] _ rfl h
  rcases hres with ⟨hch, hend⟩ | ⟨hnil, hκ⟩
  · obtain ⟨hfin, hfacts⟩ := ch_facts (s0 := ⟨s.T, s.H ++ List.replicate ops.size .dead⟩) (all := hs) hs 0 [] _ s' hch rfl (Nat.zero_le _) rfl (fun j h hj => by omega)
    rw [hfin] at hend
    simp only [Nat.zero_add] at hend
    have hlen : hs.length ≤ ops.size := by
      rcases hend with ⟨h1, _⟩ | ⟨h1, _⟩ <;> omega
    have hnl : ∀ j, listedS (Array.replicate ops.size false) j = false := by
      intro j
      unfold listedS
      rw [Array.getD_eq_getD_getElem?, Array.getElem?_replicate]
      split <;> rfl
    refine hoist_ok (E := E) hTab hF hP hm hn hsel (fun j h hj => hfacts j h (Nat.zero_le _) hj) (fun i hi => ?_) hk.len hlen (fun a w h => h) (fun c a w h => h) hend ((List.range hs.length).filter (lazyAt ops)) ops.size _ a _ (by simp) (by omega) (fun i _ hi => by rw [hnl] at hi; cases hi) (fun i hi => ?_) (List.nodup_range.sublist List.filter_sublist) (fun j hj h => .inl (List.mem_filter.2 ⟨List.mem_range.2 hj, h⟩)) (fun j hj => by rw [hnl] at hj; cases hj) ?_
    · show (s.H ++ List.replicate ops.size .dead)[s.H.length + i]? = _
      rw [List.getElem?_append_right (by omega), List.getElem?_replicate, if_pos (by omega)]
    · obtain ⟨h1, h2⟩ := List.mem_filter.1 hi
      exact ⟨List.mem_range.1 h1, h2, hnl i⟩
    · have hs0 : mkS ops hs ⟨s.T, s.H ++ List.replicate ops.size .dead⟩ (listedS (Array.replicate ops.size false)) hs.length = ⟨s.T, s.H ++ List.replicate ops.size .dead⟩ := by
        have : ∀ n, mkS ops hs ⟨s.T, s.H ++ List.replicate ops.size .dead⟩ (listedS (Array.replicate ops.size false)) n = ⟨s.T, s.H ++ List.replicate ops.size .dead⟩ := by
          intro n
          induction n with
          | zero => rfl
          | succ n ih => simp only [mkS, hnl, cond_false, ih]
        exact this _
      refine ⟨I, ρ, hI, by rw [hs0]; exact hT, by rw [hs0]; exact hpad, by rw [hs0]; exact hkpad, fun i hi _ => hinv.fresh _ (by omega)⟩
  · -- no operation at all
    have hz : ops.size = 0 := by
      have := congrArg List.length hnil
      simpa using this
    rw [hz]
    refine ⟨?_, ?_⟩
    · unfold Region.ready
      rw [hz]; rfl
    · refine ⟨_, hκ, I, ρ, hI, hT, ?_, ?_⟩
      · have := (hinv.drewN 1).pad ops.size
        exact this
      · exact hkpad

/-- THE RUN IS SOUND, open orders too. -/
theorem run_sound (hTab : TabOK C P) {callF : FuncId → CF} (hF : ∀ g, SoundF P g (callF g)) (hP : ∀ g ts F, C.pur g = some (ts, F) → SoundP P g F)
    {f : FuncId} {fn : Func} {c : Code} (hf : P.funcs[f]? = some fn) (hb : fn.body = some c) (hL : LoopsOK C callF c) : SoundF P f (fun args H κ => runFn C callF fn args H κ) :=
  runFn_sound hTab hF hP (fun E ops hd κ id s a w k hg h => draw_ok hTab hF hP E ops hd id s a w k hg h) hf hb hL
end
end Go.Proofs.Ytdjdbjcapenjeaa.Dx

