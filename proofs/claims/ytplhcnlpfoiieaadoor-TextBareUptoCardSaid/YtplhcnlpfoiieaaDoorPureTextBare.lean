/- Without the document's answer: what may stand as a bare word is the one word of its own line; what may not is not. -/
import Derived.Test.YtplhcnlpfoiieaaDoorPureText9
import Derived.Test.YtplhcnlpfoiieaaDoorPureTextWT
import Derived.Test.YtplhcnlpfoiieaaDoorPureTextC
import Derived.Test.YtplhcnlpfoiieaaDoorPx30
set_option linter.unusedVariables false
set_option linter.unusedSimpArgs false
namespace Go.Proofs.YtplhcnlpfoiieaaDoor.Pure
open Go.RowKit Go.Proofs.YtplhcnlpfoiieaaDoor.P Go.Proofs.YtplhcnlpfoiieaaDoorW.PrintWords Go.Proofs.YtplhcnlpfoiieaaDoorW.PrintLast Go.Proofs.YtplhcnlpfoiieaaDoor.PL

namespace TB
open T1 (good enc hid)
open TU TV TW
/-! ### how long a quoted text may be -/
theorem digs_len (r m : Nat) (hm : 0 < m) (h : r < 16 ^ m) : (if r = 0 then [48] else T3.hexs 8 r : List Int).length ≤ m := by
  split
  · simp; omega
  · exact TCB.hexs_len2 8 m r h
theorem q_len (s : ByteArray) (i : Nat) (hi : i < s.size) : (TQ.q s i).length ≤ 8 * U.stp s i := by
  unfold TQ.q U.stp
  by_cases hu : U.usz s i = 0
  · rw [if_pos hu, if_pos hu]; simp
  · have hr := U.uval_range s i hi hu
    have h3 := (T3.enc_at s i hi hu).2
    rw [if_neg hu, if_neg hu]
    generalize hx : U.uval s i (U.usz s i) = r at *
    by_cases c1 : r = 34
    · rw [if_pos c1]; simp; omega
    rw [if_neg c1]
    by_cases c2 : r = 92
    · rw [if_pos c2]; simp; omega
    rw [if_neg c2]
    by_cases c3 : r = 10
    · rw [if_pos c3]; simp; omega
    rw [if_neg c3]
    by_cases c4 : r = 13
    · rw [if_pos c4]; simp; omega
    rw [if_neg c4]
    by_cases c5 : r = 9
    · rw [if_pos c5]; simp; omega
    rw [if_neg c5]
    by_cases c6 : hid (r : Int) = true
    · rw [if_pos c6, List.length_append, List.length_append]
      simp only [List.length_cons, List.length_nil]
      rcases hr with ⟨h, g⟩ | ⟨h, g⟩ | ⟨h, g⟩ | ⟨h, g⟩
      · have := digs_len r 2 (by decide) (by omega); omega
      · have := digs_len r 3 (by decide) (by omega); omega
      · have := digs_len r 4 (by decide) (by omega); omega
      · have := digs_len r 6 (by decide) (by omega); omega
    · rw [if_neg c6, List.length_map, h3, List.length_take]
      omega
theorem q_sum (s : ByteArray) : ∀ (d i : Nat), i ≤ s.size → ((U.cuts s d i).flatMap (TQ.q s)).length ≤ 8 * (s.size - i)
  | 0, i, hi => by simp [U.cuts]
  | d + 1, i, hi => by
    rw [U.cuts]
    by_cases c : i < s.size
    · have hst := U.stp_le s i c
      have h1 := q_len s i c
      have h2 := q_sum s d (i + U.stp s i) hst.1
      rw [if_pos c, List.flatMap_cons, List.length_append]
      omega
    · rw [if_neg c]; simp
theorem quote_len (s : ByteArray) : (TQ.quote s).size ≤ 8 * s.size + 2 := by
  have h := q_sum s s.size 0 (by omega)
  rw [← size_list, TQ.quote, str_by8, by8_len, List.length_append, List.length_append]
  simp only [List.length_cons, List.length_nil]
  omega
/-! ### bare words -/
theorem okp_iff (s : ByteArray) (i : Nat) (hi : i < s.size) : T9.okp s i = true ↔ okk s i ∧ D s i ≠ 32 := by
  have e := atv_eq s i 32 (by decide) (by decide)
  unfold T9.okp okk
  rw [decide_eq_true_eq]
  by_cases hu : U.usz s i = 0
  · simp [hu]
  · have ea : atv s i = (U.uval s i (U.usz s i) : Int) := by rw [atv, if_pos hi, if_neg hu]
    rw [ea] at e
    have e' : U.uval s i (U.usz s i) = 32 ↔ D s i = 32 := by rw [← e]; omega
    constructor
    · rintro ⟨h1, h2, h3, h4, h5⟩
      exact ⟨⟨h1, by rintro (h | h | h); exact h3 h; exact h4 h; rw [h5] at h; cases h⟩, fun h => h2 (e'.2 h)⟩
    · rintro ⟨⟨h1, h2⟩, h3⟩
      exact ⟨h1, fun h => h3 (e'.1 h), fun h => h2 (.inl h), fun h => h2 (.inr (.inl h)), by
        cases hh : hid (U.uval s i (U.usz s i) : Int) with
        | false => rfl
        | true => exact absurd (.inr (.inr hh)) h2⟩
theorem run_all (s : ByteArray) {p q : Nat} (h : Run s p q) : q = s.size → ∀ n, (U.cuts s n p).all (T9.okp s) = true := by
  induction h with
  | nil p =>
    intro hq n
    rw [U.cuts_end _ _ _ (by omega)]; rfl
  | cons p q hp ho hb hr ih =>
    intro hq n
    cases n with
    | zero => rfl
    | succ n =>
      rw [U.cuts, if_pos hp, List.all_cons, ih hq n, (okp_iff s p hp).2 ⟨ho, hb⟩]; rfl
theorem all_run (s : ByteArray) {p q : Nat} (h : Run s p q) : ∀ n, s.size ≤ p + n → (U.cuts s n p).all (T9.okp s) = true → q < s.size → T9.okp s q = true := by
  induction h with
  | nil p =>
    intro n hn ha hq
    obtain ⟨n, rfl⟩ : ∃ m, n = m + 1 := ⟨n - 1, by omega⟩
    rw [U.cuts, if_pos hq, List.all_cons, Bool.and_eq_true] at ha
    exact ha.1
  | cons p q hp ho hb hr ih =>
    intro n hn ha hq
    obtain ⟨n, rfl⟩ : ∃ m, n = m + 1 := ⟨n - 1, by omega⟩
    have := U.stp_pos s p
    rw [U.cuts, if_pos hp, List.all_cons, Bool.and_eq_true] at ha
    exact ih n (by omega) ha.2 hq
theorem bare_iff (s : ByteArray) : T9.bare s = true ↔ 0 < s.size ∧ D s 0 ≠ 35 ∧ (U.cuts s s.size 0).all (T9.okp s) = true := by
  unfold T9.bare
  rw [Bool.and_eq_true, Bool.and_eq_true, decide_eq_true_eq, decide_eq_true_eq]
  constructor
  · rintro ⟨⟨h1, h2⟩, h3⟩
    exact ⟨by omega, by rw [D_in s 0 (by omega)]; omega, h3⟩
  · rintro ⟨h1, h2, h3⟩
    rw [D_in s 0 h1] at h2
    exact ⟨⟨by omega, by omega⟩, h3⟩
theorem extract_all (s : ByteArray) : s.extract 0 s.size = s := ext_list (by rw [suf]; rfl)
/-- A bare word is the one word of its line. -/
theorem one (s : ByteArray) (hz : s.size ≤ 4096) (hb : T9.bare s = true) (k : Nat) (hk : 100000 < k) : text_Words.f k s = some ([⟨s, false, 0⟩], 0, 0) := by
  obtain ⟨h0, h35, ha⟩ := (bare_iff s).1 hb
  have hL := U.cuts_len s s.size 0
  have hR := reach0 s
  have okp0 : T9.okp s 0 = true := all_run s (.nil 0) s.size (by omega) ha h0
  have hid9 : ∀ p, p < s.size → T9.okp s p = true → ¬ (D s p = 32 ∨ D s p = 9) := by
    intro p hp ho
    obtain ⟨⟨hu, hn⟩, h32⟩ := (okp_iff s p hp).1 ho
    rintro (h | h)
    · exact h32 h
    · have e := (atv_eq s p 9 (by decide) (by decide)).2 h
      rw [atv, if_pos hp, if_neg hu] at e
      exact hn (.inr (.inr (by rw [e]; decide)))
  obtain ⟨⟨hu0, hn0⟩, _⟩ := (okp_iff s 0 h0).1 okp0
  have h34 : D s 0 ≠ 34 := by
    intro h
    have e := (atv_eq s 0 34 (by decide) (by decide)).2 h
    rw [atv, if_pos h0, if_neg hu0] at e
    exact hn0 (.inl (by omega))
  obtain ⟨q, i, e, h1, h2, hr1, hr2, hr3, h3⟩ := bsim s _ (by omega) (by omega) 0 s.size 0 0 (by omega) hR (by omega) (by omega)
  have he : e = 0 := by
    by_cases c : e = 0
    · exact c
    · obtain ⟨hq, hno⟩ := hr3 c
      have := all_run s hr1 s.size (by omega) ha hq
      exact absurd ((okp_iff s q hq).1 this).1 hno
  rcases h3 with ⟨_, g2, g4, g5⟩ | ⟨g1, _⟩
  · have hq : q = s.size := by
      have hle := g4.1
      rcases Nat.lt_or_ge q s.size with h | h
      · have ho := all_run s hr1 s.size (by omega) ha h
        rcases hr2 he with h' | h'
        · exact absurd h h'
        · exact absurd h' (hid9 q h ho)
      · omega
    subst hq
    have hb0 : bt s 0 = D s 0 := bt_D s 0 h0
    have hw := hid9 0 h0 okp0
    obtain ⟨k, rfl⟩ : ∃ x, k = x + 8 := ⟨k - 8, by omega⟩
    have g2' : text_word.l0 (k + 4) s 0 0 = some (s.extract 0 s.size, false, 0, (s.size : Int), 0) := g2 (k + 4) (by omega)
    unfold text_Words.f
    rw [if_neg (by omega)]
    simp only [text_Words.l0, text_Words.l1, text_Words.j2, text_Words.j3]
    rw [if_pos (by omega), if_pos (by decide), hb0, if_neg (by omega), if_neg (by omega), if_neg (by omega), if_pos (by decide), if_pos (by omega), if_neg (by rw [beq_iff_eq]; exact h35), if_neg (by decide)]
    unfold text_word.f
    rw [if_pos (by decide), if_pos (by omega), hb0, if_neg h34, g2', Option.bind_some]
    simp only []
    rw [if_pos trivial, if_pos (by decide), if_neg (by omega), if_pos trivial, if_pos trivial, extract_all]
    rfl
  · exact absurd he g1
end TB
theorem TextBare (s : ByteArray) (hs : s.size ≤ 1048576) : ∃ k, shardlaw1_TextBare.f k s = some true := by
  suffices hK : ∀ K, 2000200 < K → shardlaw1_TextBare.f (K + 3) s = some true from ⟨3000000 + 3, hK 3000000 (by omega)⟩
  intro K hK
  have hnil : ((⟨#[]⟩ : ByteArray).toList == ([] : List UInt8)) = true := by rw [toList_data]; rfl
  have hq := TB.quote_len s
  -- the line of the bare word alone
  have j1 : ∀ k, 2000100 < k → text_Join.f k [(⟨s, false, 0⟩ : S45)] = some (if T9.bare s = true then (if s.size > 4096 then ((⟨#[]⟩ : ByteArray), 4096, 10) else (s, 0, 0)) else ((⟨#[]⟩ : ByteArray), 0, 14)) := by
    intro k hk
    rw [T9.tJoin _ (by simp) (fun x hx => by rw [List.mem_singleton.1 hx]; exact hs) _ hk]
    congr 1
    show (if 1 > 64 then _ else T9.join [(s, false)] 0 []) = _
    rw [if_neg (by decide)]
    unfold T9.join
    rw [if_neg (by decide)]
    by_cases c : T9.bare s = true
    · rw [if_pos c, if_pos c, if_neg (Nat.lt_irrefl 0)]
      unfold T9.join
      rw [List.nil_append, size_list]
      by_cases c2 : s.size > 4096
      · rw [if_pos (by omega), if_pos c2]
      · rw [if_neg (by omega), if_neg c2]
    · rw [if_neg c, if_neg c]; rfl
  -- the line of get and the quoted word
  have hget : T9.bare ⟨#[103, 101, 116]⟩ = true := by decide
  have j2 : ∀ k, 2000100 < k → text_Join.f k [(⟨⟨#[103, 101, 116]⟩, false, 0⟩ : S45), ⟨s, true, 0⟩] = some (if 4 + (TQ.quote s).size > 4096 then ((⟨#[]⟩ : ByteArray), 4096, 10) else ((⟨(([103, 101, 116, 32] : List UInt8) ++ (TQ.quote s).data.toList).toArray⟩ : ByteArray), 0, 0)) := by
    intro k hk
    rw [T9.tJoin _ (by simp) (fun x hx => by
      simp only [List.mem_cons, List.not_mem_nil, or_false] at hx
      rcases hx with rfl | rfl
      · show (3 : Nat) ≤ 1048576; decide
      · exact hs) _ hk]
    congr 1
    show (if 2 > 64 then _ else T9.join [((⟨#[103, 101, 116]⟩ : ByteArray), false), (s, true)] 0 []) = _
    rw [if_neg (by decide)]
    unfold T9.join
    rw [if_neg (by decide), if_pos hget, if_neg (by decide)]
    unfold T9.join
    rw [if_pos rfl, if_pos (by decide)]
    unfold T9.join
    have e : ([] ++ (⟨#[103, 101, 116]⟩ : ByteArray).data.toList ++ [32] ++ (TQ.quote s).data.toList) = ([103, 101, 116, 32] : List UInt8) ++ (TQ.quote s).data.toList := rfl
    rw [e, List.length_append, size_list]
    by_cases c2 : 4 + (TQ.quote s).size > 4096
    · rw [if_pos (by simp only [List.length_cons, List.length_nil]; omega), if_pos c2]
    · rw [if_neg (by simp only [List.length_cons, List.length_nil]; omega), if_neg c2]
  obtain ⟨W, a, e, h1, h3, h4, h5⟩ := TW.words s
  -- the question's end, by what is one and what is not
  have j0 : ∀ one : Bool, (one = true ↔ T9.bare s = true ∧ s.size ≤ 4096) → shardlaw1_TextBare.j0 (K + 3) s (if T9.bare s = true then (if s.size > 4096 then ((⟨#[]⟩ : ByteArray), 4096, 10) else (s, 0, 0)) else ((⟨#[]⟩ : ByteArray), 0, 14) : ByteArray × Int × Int).1 (if T9.bare s = true then (if s.size > 4096 then ((⟨#[]⟩ : ByteArray), 4096, 10) else (s, 0, 0)) else ((⟨#[]⟩ : ByteArray), 0, 14) : ByteArray × Int × Int).2.2 one = some true := by
    intro one hone
    have jj : shardlaw1_TextBare.j2 (K + 1) s (if T9.bare s = true then (if s.size > 4096 then ((⟨#[]⟩ : ByteArray), 4096, 10) else (s, 0, 0)) else ((⟨#[]⟩ : ByteArray), 0, 14) : ByteArray × Int × Int).1 (if T9.bare s = true then (if s.size > 4096 then ((⟨#[]⟩ : ByteArray), 4096, 10) else (s, 0, 0)) else ((⟨#[]⟩ : ByteArray), 0, 14) : ByteArray × Int × Int).2.2 one false = some true := by
      simp only [shardlaw1_TextBare.j2]
      rw [if_neg (by decide)]
      by_cases c : T9.bare s = true
      · by_cases c2 : s.size > 4096
        · have ho : one = false := by
            cases one with
            | false => rfl
            | true => have := (hone.1 rfl).2; omega
          rw [if_pos c, if_pos c2, ho, if_neg (by decide), if_neg (by decide)]
          exact congrArg some hnil
        · have ho : one = true := hone.2 ⟨c, by omega⟩
          rw [if_pos c, if_neg c2, ho, if_pos rfl, if_pos rfl]
          simp
      · have ho : one = false := by
          cases one with
          | false => rfl
          | true => exact absurd (hone.1 rfl).1 c
        rw [if_neg c, ho, if_neg (by decide), if_neg (by decide)]
        exact congrArg some hnil
    generalize (if T9.bare s = true then (if s.size > 4096 then ((⟨#[]⟩ : ByteArray), 4096, 10) else (s, 0, 0)) else ((⟨#[]⟩ : ByteArray), 0, 14) : ByteArray × Int × Int) = R at jj ⊢
    rw [shardlaw1_TextBare.j0, j2 _ (by omega), Option.bind_some]
    by_cases c : 4 + (TQ.quote s).size > 4096
    · rw [if_pos c]
      rw [if_neg (by decide), shardlaw1_TextBare.j1, if_neg (by decide), if_neg (by decide), if_neg (by omega), show ((10 : Int) != 10) = false from rfl]
      exact jj
    · have h2 : 2 ≤ (TQ.quote s).size := by
        rw [← size_list, TQ.quote, TU.str_by8, TU.by8_len, List.length_append, List.length_append]
        simp only [List.length_cons, List.length_nil]
        omega
      have hq0 : (TQ.quote s).data.toList = TU.by8 ([34] ++ ((U.cuts s s.size 0).flatMap (TQ.q s) ++ [34])) := by unfold TQ.quote; rw [TU.str_by8, List.append_assoc]
      have hsz : (⟨(([103, 101, 116, 32] : List UInt8) ++ (TQ.quote s).data.toList).toArray⟩ : ByteArray).size = 4 + (TQ.quote s).size := by
        rw [← size_list]
        show (([103, 101, 116, 32] : List UInt8) ++ (TQ.quote s).data.toList).length = _
        rw [List.length_append, size_list]
        simp only [List.length_cons, List.length_nil]
      have hex : ((⟨(([103, 101, 116, 32] : List UInt8) ++ (TQ.quote s).data.toList).toArray⟩ : ByteArray).extract 0 5).toList = ([103, 101, 116, 32, 34] : List UInt8) := by
        rw [extract_list, hq0]
        rfl
      rw [if_neg c, if_pos rfl]
      generalize (⟨(([103, 101, 116, 32] : List UInt8) ++ (TQ.quote s).data.toList).toArray⟩ : ByteArray) = G at hsz hex ⊢
      dsimp only
      rw [if_neg (by omega), if_pos (by decide), if_pos (by omega), hex, bne_self_eq_false]
      rw [shardlaw1_TextBare.j1, if_neg (by decide), if_pos rfl]
      exact jj
  unfold shardlaw1_TextBare.f
  rw [j1 _ (by omega), Option.bind_some]
  by_cases cb : T9.bare s = true ∧ s.size ≤ 4096
  · rw [TB.one s cb.2 cb.1 _ (by omega), Option.bind_some]
    simp only []
    rw [if_pos trivial, if_pos (by simp), if_pos (by simp), if_neg (by simp [rd_T45])]
    exact j0 _ ⟨fun _ => cb, fun _ => by simp [rd_T45]⟩
  · rw [h1 _ (by omega), Option.bind_some]
    simp only []
    have jf : shardlaw1_TextBare.j0 (K + 3) s _ _ false = some true := j0 false ⟨fun h => absurd h (by decide), fun h => absurd h cb⟩
    by_cases ce : e = 0
    · rw [if_pos ce]
      have hz : s.size ≤ 4096 := by
        rcases Nat.lt_or_ge 4096 s.size with h | h
        · have := h5 h; omega
        · exact h
      by_cases cl : (W.length : Int) = 1
      · rw [if_pos cl, if_pos (by omega)]
        have hw0 : rd_T45 W 0 = W[0]'(by omega) := by
          rw [rd_T45, Int.toNat_zero, List.getD_eq_getElem?_getD, List.getElem?_eq_getElem (show 0 < W.length by omega)]; rfl
        have hg := h4 _ (List.getElem_mem (show 0 < W.length by omega))
        rw [hw0]
        generalize W[0]'(by omega) = w at hg
        by_cases cq : w.f1 = true
        · rw [if_pos cq]; exact jf
        · rw [if_neg cq]
          have hne : (w.f0.toList == s.toList) = false := by
            rw [beq_eq_false_iff_ne]
            intro h
            obtain ⟨p, q, e1, e2, e3, e4, e5⟩ := hg (by simpa using cq)
            have e6 : w.f0 = s := TU.ext_list (by rw [← toList_data, ← toList_data]; exact h)
            have e7 : s.size ≤ q - p := by
              have := congrArg ByteArray.size e1
              rw [e6, ← size_list (s.extract p q), ← toList_data, extract_list, List.length_take] at this
              omega
            have e8 : p = 0 := by omega
            have e9 : q = s.size := by omega
            subst e8
            exact cb ⟨(TB.bare_iff s).2 ⟨by omega, e5, TB.run_all s e4 e9 s.size⟩, hz⟩
          rw [hne]
          exact jf
      · rw [if_neg cl]; exact jf
    · rw [if_neg ce]; exact jf
end Go.Proofs.YtplhcnlpfoiieaaDoor.Pure
