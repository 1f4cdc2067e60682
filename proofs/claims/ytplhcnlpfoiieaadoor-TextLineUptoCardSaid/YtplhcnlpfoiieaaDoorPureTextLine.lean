/- Any bytes, each quoted, go into one line and come out of it, in their order, whatever blanks and comment are added. -/
import Derived.Test.YtplhcnlpfoiieaaDoorXRead
import Derived.Test.YtplhcnlpfoiieaaDoorPureText9
import Derived.Test.YtplhcnlpfoiieaaDoorPureTextWT
import Derived.Test.YtplhcnlpfoiieaaDoorPureTextC
import Derived.Test.YtplhcnlpfoiieaaDoorPx31
set_option linter.unusedVariables false
set_option linter.unusedSimpArgs false
namespace Go.Proofs.YtplhcnlpfoiieaaDoor.Pure
open Go.RowKit Go.Proofs.YtplhcnlpfoiieaaDoor.P Go.Proofs.YtplhcnlpfoiieaaDoorW.PrintWords Go.Proofs.YtplhcnlpfoiieaaDoorW.PrintLast Go.Proofs.YtplhcnlpfoiieaaDoor.PL

namespace TLN
open T1 (good enc hid)
open TU TV TW
open TQ (q quote)
/-- A quoted text with whatever behind it. -/
theorem loopR (s Q : ByteArray) (hs : s.size ≤ 1048576) (hQ : Q.size < 100000000) (rest : List UInt8) : ∀ (d k i p : Nat), i ≤ s.size → s.size ≤ i + d → Q.data.toList.drop p = by8 ((U.cuts s d i).flatMap (q s) ++ [34]) ++ rest → d + 80 < k →
    text_unquoted.l0 k Q (p : Int) ((bytesOf s).take i) = some (s, ((p + ((U.cuts s d i).flatMap (q s)).length + 1 : Nat) : Int), 0)
  | 0, k, i, p, hi, hd, h, hk => by
    obtain ⟨k, rfl⟩ : ∃ x, k = x + 1 := ⟨k - 1, by omega⟩
    have h' : Q.data.toList.drop p = (enc 34).data.toList ++ rest := by rw [h]; rfl
    have hp : p < Q.size := by
      have := congrArg List.length h'
      rw [List.length_drop, size_list, List.length_append] at this
      have e : (enc 34).data.toList.length = 1 := rfl
      omega
    have hes := suf_size Q p
    obtain ⟨r1, r2, r3⟩ := T2.rune_at (Q.extract p Q.size) 0 34 (by unfold good; omega) rest (by rw [List.drop_zero, suf, h'])
    have hlen : (enc 34).data.toList.length = 1 := rfl
    simp only [text_unquoted.l0]
    rw [if_pos (by omega), if_pos (by omega), if_pos (by omega), show ((p : Int)).toNat = p from rfl, cutE _ r1, if_neg (by omega), Option.bind_some, if_neg Bool.false_ne_true]
    simp only [r3]
    rw [if_pos trivial, wrap64_id (by omega) (by omega), List.take_of_length_le (by rw [bytesOf_length]; omega), str_bytes]
    rfl
  | d + 1, k, i, p, hi, hd, h, hk => by
    obtain ⟨k, rfl⟩ : ∃ x, k = x + 1 := ⟨k - 1, by omega⟩
    by_cases c : i < s.size
    · have hst := U.stp_le s i c
      rw [U.cuts, if_pos c, List.flatMap_cons] at h ⊢
      rw [List.append_assoc, by8_app, List.append_assoc] at h
      rw [TCB.step s Q i p k _ _ c hQ h (by rw [List.length_take]; omega) (by omega), TCB.bytes_take]
      have h2 := T2.drop_next h
      rw [by8_len] at h2
      have hst1 := U.stp_pos s i
      rw [loopR s Q hs hQ rest d k (i + U.stp s i) _ (by omega) (by omega) h2 (by omega), List.length_append, Nat.add_assoc p]
    · have e : U.cuts s (d + 1) i = U.cuts s 0 i := U.cuts_fuel s (d + 1) 0 i (by omega) (by omega)
      rw [e] at h ⊢
      exact loopR s Q hs hQ rest 0 (k + 1) i p hi (by omega) h (by omega)
theorem quote_list (s : ByteArray) : (quote s).data.toList = by8 ([34] ++ ((U.cuts s s.size 0).flatMap (q s) ++ [34])) := by unfold quote; rw [str_by8, List.append_assoc]
theorem D_drop {s : ByteArray} {p : Nat} {b : UInt8} {r : List UInt8} (h : s.data.toList.drop p = b :: r) : p < s.size ∧ D s p = (b.toNat : Int) := by
  have hp : p < s.size := by
    have := congrArg List.length h
    rw [List.length_drop, size_list, List.length_cons] at this
    omega
  refine ⟨hp, ?_⟩
  rw [D_in s p hp]
  have := T2.B_drop s p 0
  rw [h] at this
  rw [show U.B s p = U.B s (p + 0) from rfl, this]; rfl
theorem unq (s Q : ByteArray) (hs : s.size ≤ 1048576) (hQ : Q.size < 100000000) (rest : List UInt8) (k p : Nat) (h : Q.data.toList.drop p = (quote s).data.toList ++ rest) (hk : 1048800 < k) : text_unquoted.f k Q (p : Int) = some (s, ((p + (quote s).size : Nat) : Int), 0) := by
  obtain ⟨k, rfl⟩ : ∃ x, k = x + 1 := ⟨k - 1, by omega⟩
  have hsz : (quote s).size = ((U.cuts s s.size 0).flatMap (q s)).length + 2 := by rw [← size_list, quote_list]; simp [by8]
  rw [quote_list, by8_app] at h
  have h1 : Q.data.toList.drop p = 34 :: (by8 ((U.cuts s s.size 0).flatMap (q s) ++ [34]) ++ rest) := by rw [h]; rfl
  obtain ⟨hp, hD⟩ := D_drop h1
  have h2 : Q.data.toList.drop (p + 1) = by8 ((U.cuts s s.size 0).flatMap (q s) ++ [34]) ++ rest := by rw [← List.drop_drop, h1]; rfl
  have hL := loopR s Q hs hQ rest s.size k 0 (p + 1) (by omega) (by omega) h2 (by omega)
  rw [List.take_zero] at hL
  unfold text_unquoted.f
  rw [if_neg (by omega), if_pos (by omega), if_pos (by omega), bt_D Q p hp, hD]
  simp only [text_unquoted.j0]
  rw [if_neg (by decide), wrap64_id (by omega) (by omega), show (p : Int) + 1 = ((p + 1 : Nat) : Int) by omega, hL, hsz, show p + 1 + ((U.cuts s s.size 0).flatMap (q s)).length + 1 = p + (((U.cuts s s.size 0).flatMap (q s)).length + 2) by omega]
/-- A line of quoted words, from a place on. -/
inductive Form : List ByteArray → List UInt8 → Prop
  | done : Form [] []
  | hash (c : List UInt8) : Form [] (35 :: c)
  | blank (b : UInt8) (vs : List ByteArray) (r : List UInt8) : b = 32 ∨ b = 9 → Form vs r → Form vs (b :: r)
  | word (v : ByteArray) (vs : List ByteArray) (r : List UInt8) : v.size ≤ 1048576 → Form vs r → (r = [] ∨ ∃ b r', r = b :: r' ∧ (b = 32 ∨ b = 9)) → Form (v :: vs) ((quote v).data.toList ++ r)
theorem quote_two (s : ByteArray) : 2 ≤ (quote s).size := by
  rw [← size_list, quote_list, by8_len, List.length_append, List.length_append]
  simp only [List.length_cons, List.length_nil]
  omega
theorem walk (Ln : ByteArray) (hz : Ln.size ≤ 4096) {vs : List ByteArray} {r : List UInt8} (F : Form vs r) : ∀ (W : List (S45)) (p k : Nat), Ln.data.toList.drop p = r → p ≤ Ln.size → W.length ≤ 64 → 2 * W.length ≤ p → 4 * r.length + 2000000 < k →
    (W.length + vs.length ≤ 64 → ∃ W2 : List (S45), text_Words.l1 k Ln W (p : Int) = some (W ++ W2, 0, 0) ∧ W2.map T9.word = vs.map fun v => (v, true)) ∧
    (64 < W.length + vs.length → ∃ a : Int, text_Words.l1 k Ln W (p : Int) = some ([], a, 18) ∧ 64 < a) := by
  induction F with
  | done =>
    intro W p k h hp hW h2 hk
    have hsz : p = Ln.size := by
      have := congrArg List.length h
      rw [List.length_drop, size_list, List.length_nil] at this
      omega
    refine ⟨fun _ => ⟨[], ?_, rfl⟩, fun hc => ?_⟩
    · obtain ⟨k, rfl⟩ : ∃ x, k = x + 3 := ⟨k - 3, by omega⟩
      simp only [text_Words.l1, text_Words.j2, text_Words.j3]
      rw [if_neg (by omega), if_pos (by omega), if_pos trivial, List.append_nil]
    · rw [List.length_nil] at hc; omega
  | hash c =>
    intro W p k h hp hW h2 hk
    obtain ⟨hlt, hD⟩ := D_drop h
    have hD' : D Ln p = 35 := hD
    refine ⟨fun _ => ⟨[], ?_, rfl⟩, fun hc => ?_⟩
    · obtain ⟨k, rfl⟩ : ∃ x, k = x + 3 := ⟨k - 3, by omega⟩
      simp only [text_Words.l1, text_Words.j2, text_Words.j3]
      rw [if_pos (by omega), if_pos (by omega), bt_D Ln p hlt, hD', if_neg (by decide), if_neg (by decide), if_neg (by omega), if_pos (by omega), if_pos (by omega), if_pos (by decide), List.append_nil]
    · rw [List.length_nil] at hc; omega
  | blank b vs r hb F ih =>
    intro W p k h hp hW h2 hk
    obtain ⟨hlt, hD⟩ := D_drop h
    have hn : Ln.data.toList.drop (p + 1) = r := by rw [← List.drop_drop, h]; rfl
    obtain ⟨k, rfl⟩ : ∃ x, k = x + 1 := ⟨k - 1, by omega⟩
    rw [List.length_cons] at hk
    have e : text_Words.l1 (k + 1) Ln W (p : Int) = text_Words.l1 k Ln W ((p + 1 : Nat) : Int) := by
      simp only [text_Words.l1]
      rw [if_pos (by omega), if_pos (by omega), bt_D Ln p hlt, hD, wrap64_id (by omega) (by omega)]
      rcases hb with rfl | rfl
      · rw [if_pos (by decide)]; rfl
      · rw [if_neg (by decide), if_pos (by decide)]; rfl
    rw [e]
    exact ih W (p + 1) k hn (by omega) hW (by omega) (by omega)
  | word v vs r hv F hr ih =>
    intro W p k h hp hW h2 hk
    have hq2 := quote_two v
    have h1 : Ln.data.toList.drop p = 34 :: (by8 ((U.cuts v v.size 0).flatMap (q v) ++ [34]) ++ r) := by rw [h, quote_list, by8_app]; rfl
    obtain ⟨hlt, hD⟩ := D_drop h1
    have hD' : D Ln p = 34 := hD
    obtain ⟨k, rfl⟩ : ∃ x, k = x + 4 := ⟨k - 4, by omega⟩
    rw [List.length_append, size_list] at hk
    have tj : text_Words.l1 (k + 4) Ln W (p : Int) = text_Words.j3 (k + 2) Ln W (p : Int) false := by
      simp only [text_Words.l1, text_Words.j2]
      rw [if_pos (by omega), if_pos (by omega), bt_D Ln p hlt, hD', if_neg (by decide), if_neg (by decide), if_neg (by omega), if_pos (by omega), if_pos (by omega)]
      rfl
    have hn : Ln.data.toList.drop (p + (quote v).size) = r := by
      have := T2.drop_next h
      rw [size_list] at this
      exact this
    have hple : p + (quote v).size ≤ Ln.size := by
      have := congrArg List.length h
      rw [List.length_drop, size_list, List.length_append, size_list] at this
      omega
    rw [tj, List.length_cons]
    simp only [text_Words.j3]
    rw [if_neg Bool.false_ne_true]
    by_cases c64 : W.length = 64
    · rw [if_pos (by omega)]
      exact ⟨fun hc => by omega, fun _ => ⟨p, rfl, by omega⟩⟩
    · have hw : text_word.f (k + 1) Ln (p : Int) = some (v, true, (p : Int), ((p + (quote v).size : Nat) : Int), 0) := by
        unfold text_word.f
        rw [if_pos (by omega), if_pos (by omega), bt_D Ln p hlt, hD', if_pos rfl, unq v Ln hv (by omega) r (k + 1) p h (by omega), Option.bind_some]
        simp only []
        rw [if_pos trivial]
        rcases hr with rfl | ⟨b, r', rfl, hb⟩
        · have : p + (quote v).size = Ln.size := by
            have := congrArg List.length hn
            rw [List.length_drop, size_list, List.length_nil] at this
            omega
          rw [if_neg (by omega)]
        · obtain ⟨hlt2, hD2⟩ := D_drop hn
          rw [if_pos (by omega), if_pos (by omega), bt_D Ln _ hlt2, hD2]
          rcases hb with rfl | rfl
          · rw [if_pos (by decide)]
          · rw [if_neg (by decide), if_pos (by decide)]
      rw [if_neg (by omega), hw, Option.bind_some]
      simp only []
      rw [if_pos trivial, if_pos (by omega)]
      simp only [text_Words.l0]
      obtain ⟨i1, i2⟩ := ih (W ++ [⟨v, true, (p : Int)⟩]) (p + (quote v).size) k hn hple (by rw [List.length_append]; simp; omega) (by rw [List.length_append]; simp; omega) (by omega)
      rw [List.length_append] at i1 i2
      refine ⟨fun hc => ?_, fun hc => ?_⟩
      · obtain ⟨W2, g1, g2⟩ := i1 (by simp; omega)
        refine ⟨⟨v, true, (p : Int)⟩ :: W2, ?_, ?_⟩
        · rw [g1, List.append_assoc]; rfl
        · rw [List.map_cons, List.map_cons, g2]; rfl
      · exact i2 (by simp; omega)
theorem walked (Ln : ByteArray) (hz : Ln.size ≤ 4096) {vs : List ByteArray} (F : Form vs Ln.data.toList) (k : Nat) (hk : 2100000 < k) :
    (vs.length ≤ 64 → ∃ W2 : List (S45), text_Words.f k Ln = some (W2, 0, 0) ∧ W2.map T9.word = vs.map fun v => (v, true)) ∧
    (64 < vs.length → ∃ a : Int, text_Words.f k Ln = some ([], a, 18) ∧ 64 < a) := by
  obtain ⟨k, rfl⟩ : ∃ x, k = x + 1 := ⟨k - 1, by omega⟩
  obtain ⟨h1, h2⟩ := walk Ln hz F [] 0 k (by rw [List.drop_zero]) (by omega) (by simp) (by simp) (by rw [size_list]; omega)
  have e : text_Words.f (k + 1) Ln = text_Words.l1 k Ln [] ((0 : Nat) : Int) := by
    unfold text_Words.f
    rw [if_neg (by omega)]
    rfl
  rw [e]
  simpa using And.intro h1 h2
/-! ### the two lines -/
def body (sep : List UInt8) : List ByteArray → List UInt8
  | [] => []
  | v :: vs => (quote v).data.toList ++ (sep ++ body sep vs)
theorem body_snoc (sep : List UInt8) : ∀ (vs : List ByteArray) (v : ByteArray), body sep (vs ++ [v]) = body sep vs ++ ((quote v).data.toList ++ sep)
  | [], v => by simp [body]
  | u :: vs, v => by rw [List.cons_append, body, body_snoc sep vs v, body]; simp
def Sep (sep : List UInt8) : Prop := sep = [32] ∨ sep = [9, 32]
theorem form_sep {sep : List UInt8} (hs : Sep sep) {vs : List ByteArray} {r : List UInt8} (F : Form vs r) : Form vs (sep ++ r) := by
  rcases hs with rfl | rfl
  · exact .blank 32 vs r (.inl rfl) F
  · exact .blank 9 vs _ (.inr rfl) (.blank 32 vs r (.inl rfl) F)
theorem form_body {sep : List UInt8} (hs : Sep sep) (c : List UInt8) : ∀ (vs : List ByteArray), (∀ v ∈ vs, v.size ≤ 1048576) → Form vs (body sep vs ++ 35 :: c)
  | [], h => .hash c
  | v :: vs, h => by
    rw [body, List.append_assoc, List.append_assoc]
    refine .word v vs _ (h v List.mem_cons_self) (form_sep hs (form_body hs c vs fun x hx => h x (List.mem_cons_of_mem _ hx))) (.inr ?_)
    rcases hs with rfl | rfl
    · exact ⟨32, _, rfl, .inl rfl⟩
    · exact ⟨9, _, rfl, .inr rfl⟩
def tailq : Nat → List ByteArray → List UInt8
  | _, [] => []
  | i, v :: vs => (if 0 < i then [32] else []) ++ ((quote v).data.toList ++ tailq (i + 1) vs)
theorem form_tail : ∀ (vs : List ByteArray) (i : Nat), (∀ v ∈ vs, v.size ≤ 1048576) → Form vs (tailq i vs)
  | [], i, h => .done
  | v :: vs, i, h => by
    have F := form_tail vs (i + 1) (fun x hx => h x (List.mem_cons_of_mem _ hx))
    have F2 : Form (v :: vs) ((quote v).data.toList ++ tailq (i + 1) vs) := .word v vs _ (h v List.mem_cons_self) F (by
      cases vs with
      | nil => exact .inl rfl
      | cons u vs => exact .inr ⟨32, _, by rw [tailq, if_pos (by omega)]; rfl, .inl rfl⟩)
    rw [tailq]
    split
    · exact .blank 32 _ _ (.inl rfl) F2
    · exact F2
theorem tail_len {sep : List UInt8} (hs : Sep sep) : ∀ (vs : List ByteArray) (i : Nat), (tailq i vs).length ≤ (body sep vs).length + (if 0 < i then 1 else 0)
  | [], i => by simp [tailq]
  | v :: vs, i => by
    have h1 := tail_len hs vs (i + 1)
    have h2 : 1 ≤ sep.length := by rcases hs with rfl | rfl <;> simp
    rw [if_pos (by omega)] at h1
    rw [tailq, body, List.length_append, List.length_append, List.length_append, List.length_append]
    split <;> simp only [List.length_cons, List.length_nil] <;> omega
theorem joinQ : ∀ (vs : List ByteArray) (i : Nat) (bs : List UInt8), T9.join (vs.map fun v => (v, true)) i bs = (if ((bs ++ tailq i vs).length : Int) > 4096 then ((⟨#[]⟩ : ByteArray), 4096, 10) else ((⟨(bs ++ tailq i vs).toArray⟩ : ByteArray), 0, 0))
  | [], i, bs => by rw [List.map_nil, T9.join, tailq, List.append_nil]
  | v :: vs, i, bs => by
    rw [List.map_cons, T9.join, if_pos rfl, joinQ vs (i + 1), tailq]
    by_cases c : 0 < i
    · rw [if_pos c, if_pos c]; simp only [List.append_assoc]
    · rw [if_neg c, if_neg c]; simp only [List.append_assoc, List.nil_append]
/-! ### the law's loops -/
def mkW (v : ByteArray) : S45 := ⟨v, true, 0⟩
theorem rdW {W : List (S45)} {vs : List ByteArray} (h : W.map T9.word = vs.map fun v => (v, true)) (j : Nat) (hj : j < vs.length) : j < W.length ∧ (rd_T45 W (j : Int)).f0 = vs[j] ∧ (rd_T45 W (j : Int)).f1 = true := by
  have hl : W.length = vs.length := by have := congrArg List.length h; simpa using this
  have hjW : j < W.length := by omega
  have he : T9.word W[j] = (vs[j], true) := by
    have h1 : (W.map T9.word)[j]? = (vs.map fun v => (v, true))[j]? := by rw [h]
    rw [List.getElem?_map, List.getElem?_map, List.getElem?_eq_getElem hjW, List.getElem?_eq_getElem hj] at h1
    exact Option.some.inj h1
  have er : rd_T45 W (j : Int) = W[j] := by simp [rd_T45, hjW]
  rw [er]
  exact ⟨hjW, congrArg Prod.fst he, congrArg Prod.snd he⟩
theorem l2 (l : List ByteArray) (X : List (S45)) (hX : X.map T9.word = l.map fun v => (v, true)) (hl : l.length ≤ 64) : ∀ (d k j : Nat), j + d = l.length → d < k → shardlaw1_TextLine.l2 k l X (j : Int) = some true
  | 0, k, j, hd, hk => by
    obtain ⟨k, rfl⟩ : ∃ x, k = x + 1 := ⟨k - 1, by omega⟩
    have hlen : X.length = l.length := by have := congrArg List.length hX; simpa using this
    simp only [shardlaw1_TextLine.l2]
    rw [if_neg (by omega)]
  | d + 1, k, j, hd, hk => by
    obtain ⟨k, rfl⟩ : ∃ x, k = x + 1 := ⟨k - 1, by omega⟩
    have hj : j < l.length := by omega
    obtain ⟨h1, h2, h3⟩ := rdW hX j hj
    have er : rdOf ByteArray.empty l (j : Int) = l[j] := by simp [rdOf, hj]
    simp only [shardlaw1_TextLine.l2]
    rw [h2, er, if_pos (by omega), if_pos (by omega), if_pos (by omega), if_pos rfl, wrap64_id (by omega) (by omega)]
    exact l2 l X hX hl d k (j + 1) (by omega) (by omega)
theorem l1 (l : List ByteArray) (Ln : ByteArray) (hsz : ∀ v ∈ l, v.size ≤ 1048576) (hl : l.length ≤ 64) (sep : List UInt8) (hs : Sep sep) (c : List UInt8) (hz : Ln.size ≤ 4096) (hL : Ln.data.toList = sep ++ (body sep l ++ 35 :: c)) (W : List (S45)) (hW : W.map T9.word = l.map fun v => (v, true)) : ∀ (d k j : Nat), j + d = l.length → d + 2200000 < k →
    shardlaw1_TextLine.l1 k l Ln (l.map mkW) W (j : Int) = some true
  | 0, k, j, hd, hk => by
    obtain ⟨k, rfl⟩ : ∃ x, k = x + 2 := ⟨k - 2, by omega⟩
    have hlen : W.length = l.length := by have := congrArg List.length hW; simpa using this
    have htl := tail_len hs l 0
    have hLs : Ln.size = sep.length + ((body sep l).length + (c.length + 1)) := by rw [← size_list, hL, List.length_append, List.length_append, List.length_cons]
    rw [if_neg (by omega)] at htl
    have hjn : ∀ k, 2000100 < k → text_Join.f k (l.map mkW) = some ((⟨(tailq 0 l).toArray⟩ : ByteArray), 0, 0) := by
      intro k hk
      rw [T9.tJoin _ (by rw [List.length_map]; omega) (fun x hx => by
        obtain ⟨v, hv, rfl⟩ := List.mem_map.1 hx
        exact hsz v hv) k hk]
      unfold T9.joined
      rw [List.length_map, List.length_map, if_neg (by omega), List.map_map, show (T9.word ∘ mkW) = fun v => (v, true) from rfl, joinQ, List.nil_append, if_neg (by omega)]
    have hss : (⟨(tailq 0 l).toArray⟩ : ByteArray).size = (tailq 0 l).length := by rw [← size_list]
    obtain ⟨X, g1, g2⟩ := (walked ⟨(tailq 0 l).toArray⟩ (by omega) (vs := l) (form_tail l 0 hsz) (k + 1) (by omega)).1 hl
    have hXl : X.length = l.length := by have := congrArg List.length g2; simpa using this
    simp only [shardlaw1_TextLine.l1]
    rw [if_neg (by omega), hjn _ (by omega), Option.bind_some]
    simp only []
    rw [g1, Option.bind_some]
    simp only []
    rw [if_pos trivial, if_pos trivial, if_pos (by omega), decide_eq_false (by omega)]
    simp only [shardlaw1_TextLine.j4]
    rw [if_neg (by decide)]
    exact l2 l X g2 hl l.length k 0 (by omega) (by omega)
  | d + 1, k, j, hd, hk => by
    obtain ⟨k, rfl⟩ : ∃ x, k = x + 1 := ⟨k - 1, by omega⟩
    have hj : j < l.length := by omega
    obtain ⟨h1, h2, h3⟩ := rdW hW j hj
    have er : rdOf ByteArray.empty l (j : Int) = l[j] := by simp [rdOf, hj]
    simp only [shardlaw1_TextLine.l1]
    rw [h2, h3, er, if_pos (by omega), if_pos (by omega), if_pos (by omega), if_pos rfl, if_pos rfl, wrap64_id (by omega) (by omega)]
    exact l1 l Ln hsz hl sep hs c hz hL W hW d k (j + 1) (by omega) (by omega)
theorem l0 (l : List ByteArray) (hll : l.length ≤ 1048576) (hsz : ∀ v ∈ l, v.size ≤ 1048576) (sp c : ByteArray) (hs : Sep sp.data.toList) (hc : c.size ≤ 1048576) : ∀ (d k j : Nat) (x : ByteArray), j + d = l.length → d + 3300000 < k → x.data.toList = sp.data.toList ++ body sp.data.toList (l.take j) → x.size ≤ 2 + 13000000 * j →
    shardlaw1_TextLine.l0 k l c sp x ((l.take j).map mkW) (j : Int) = some true
  | 0, k, j, x, hd, hk, hx, hxs => by
    obtain ⟨k, rfl⟩ : ∃ x, k = x + 2 := ⟨k - 2, by omega⟩
    rw [show j = l.length by omega, List.take_length] at hx ⊢
    have e1 : (⟨#[35]⟩ : ByteArray).size = 1 := rfl
    have hLn : ((x ++ (⟨#[35]⟩ : ByteArray)) ++ c).data.toList = sp.data.toList ++ (body sp.data.toList l ++ 35 :: c.data.toList) := by
      rw [ByteArray.data_append, Array.toList_append, ByteArray.data_append, Array.toList_append, hx]
      simp
    simp only [shardlaw1_TextLine.l0]
    rw [if_neg (by omega), if_pos (by omega), if_pos (by omega)]
    generalize ((x ++ (⟨#[35]⟩ : ByteArray)) ++ c) = Ln at hLn ⊢
    by_cases cz : Ln.size > 4096
    · have : text_Words.f (k + 1) Ln = some ([], 4096, 10) := by
        unfold text_Words.f; rw [if_pos (by omega)]
      rw [this, Option.bind_some, if_pos (by omega)]
      rfl
    · obtain ⟨w1, w2⟩ := walked Ln (by omega) (vs := l) (by rw [hLn]; exact form_sep hs (form_body hs _ l hsz)) (k + 1) (by omega)
      by_cases c64 : l.length ≤ 64
      · obtain ⟨W, g1, g2⟩ := w1 c64
        have hlen : W.length = l.length := by have := congrArg List.length g2; simpa using this
        rw [g1, Option.bind_some, if_neg (by omega), if_neg (by omega)]
        simp only []
        rw [if_pos trivial, if_pos trivial, hlen, bne_self_eq_false]
        simp only [shardlaw1_TextLine.j2]
        rw [if_neg (by decide)]
        exact l1 l Ln hsz c64 sp.data.toList hs c.data.toList (by omega) hLn W g2 l.length k 0 (by omega) (by omega)
      · obtain ⟨a, g1, g2⟩ := w2 (by omega)
        rw [g1, Option.bind_some, if_neg (by omega), if_pos (by omega)]
        simp only []
        rw [if_pos trivial, if_pos (by simp), decide_eq_true (by omega)]
  | d + 1, k, j, x, hd, hk, hx, hxs => by
    obtain ⟨k, rfl⟩ : ∃ x, k = x + 1 := ⟨k - 1, by omega⟩
    have hj : j < l.length := by omega
    have er : rdOf ByteArray.empty l (j : Int) = l[j] := by simp [rdOf, hj]
    have hv := hsz _ (List.getElem_mem hj)
    have hqs := TQ.quote_size l[j]
    have hsp : sp.size ≤ 2 := by
      rw [← size_list]
      rcases hs with h | h <;> rw [h] <;> simp
    have etk : l.take (j + 1) = l.take j ++ [l[j]] := by rw [List.take_succ_eq_append_getElem hj]
    have ih := l0 l hll hsz sp c hs hc d k (j + 1) ((x ++ quote l[j]) ++ sp) (by omega) (by omega) (by
      rw [etk, body_snoc, ByteArray.data_append, Array.toList_append, ByteArray.data_append, Array.toList_append, hx]
      simp only [List.append_assoc]) (by rw [ByteArray.size_append, ByteArray.size_append]; omega)
    rw [etk, List.map_append] at ih
    simp only [shardlaw1_TextLine.l0]
    rw [er, if_pos (by omega), if_pos (by omega), TQ.tQuote l[j] hv k (by omega), Option.bind_some, if_pos (by omega), if_pos (by omega), if_pos (by rw [List.length_map, List.length_take]; omega), wrap64_id (by omega) (by omega)]
    exact ih
end TLN
theorem TextLine (l : List ByteArray) (a1 : Int) (c : ByteArray) (hz : (l.map fun x => x.size + 1).sum + 1 ≤ 1048576) (hw : ∀ x ∈ l, True) (h1 : (Lit.int .i64 a1).wf = true) (hc : c.size ≤ 1048576) : ∃ k, shardlaw1_TextLine.f k l a1 c = some true := by
  have h1 := reads.length_le l (fun x => x.size + 1) (fun x => by omega)
  have h2 : ∀ x ∈ l, x.size ≤ 1048576 := fun x hx => by
    have := reads.mem_le l (fun x => x.size + 1) x hx
    omega
  suffices hK : ∀ K, 4400000 < K → shardlaw1_TextLine.f (K + 1) l a1 c = some true from ⟨5000000 + 1, hK 5000000 (by omega)⟩
  intro K hK
  unfold shardlaw1_TextLine.f
  by_cases ca : Go.bits .and .i64 a1 1 = 1
  · rw [if_pos ca, shardlaw1_TextLine.j0]
    exact TLN.l0 l (by omega) h2 ⟨#[32]⟩ c (.inl rfl) hc l.length K 0 ⟨#[32]⟩ (by omega) (by omega) rfl (by decide)
  · rw [if_neg ca, shardlaw1_TextLine.j0]
    exact TLN.l0 l (by omega) h2 ⟨#[9, 32]⟩ c (.inr rfl) hc l.length K 0 ⟨#[9, 32]⟩ (by omega) (by omega) rfl (by decide)
end Go.Proofs.YtplhcnlpfoiieaaDoor.Pure
