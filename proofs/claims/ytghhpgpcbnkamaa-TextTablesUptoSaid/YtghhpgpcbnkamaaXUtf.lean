/- Plain facts about the model's UTF-8 decoder: which bytes make a rune, by the table of encodings. No program in sight. -/
import Derived.Laws.RangeAny
import Derived.Laws.RangeString
set_option linter.unusedVariables false
set_option linter.unusedSimpArgs false
namespace Go.Proofs.Ytghhpgpcbnkamaa.U

/-- The byte at i, 0 beyond the end. -/
def B (s : ByteArray) (i : Nat) : Nat := (s.get! i).toNat
theorem B_lt (s : ByteArray) (i : Nat) : B s i < 256 := (s.get! i).toNat_lt
/-- Is there a byte at i from lo to hi? -/
def bet (s : ByteArray) (i lo hi : Nat) : Bool := decide (i < s.size) && decide (lo ≤ B s i) && decide (B s i ≤ hi)
theorem bet_iff {s : ByteArray} {i lo hi : Nat} : bet s i lo hi = true ↔ i < s.size ∧ lo ≤ B s i ∧ B s i ≤ hi := by
  simp [bet, and_assoc]
/-- The size of the encoding that begins at i; 0: there is none. -/
def usz (s : ByteArray) (i : Nat) : Nat :=
  if B s i < 128 then 1
  else if bet s i 194 223 && bet s (i + 1) 128 191 then 2
  else if (bet s i 224 224 && bet s (i + 1) 160 191 || bet s i 225 236 && bet s (i + 1) 128 191 || bet s i 237 237 && bet s (i + 1) 128 159 || bet s i 238 239 && bet s (i + 1) 128 191) && bet s (i + 2) 128 191 then 3
  else if (bet s i 240 240 && bet s (i + 1) 144 191 || bet s i 241 243 && bet s (i + 1) 128 191 || bet s i 244 244 && bet s (i + 1) 128 143) && bet s (i + 2) 128 191 && bet s (i + 3) 128 191 then 4
  else 0
/-- The rune of n bytes at i. -/
def uval (s : ByteArray) (i n : Nat) : Nat :=
  if n = 1 then B s i
  else if n = 2 then (B s i - 192) * 64 + (B s (i + 1) - 128)
  else if n = 3 then ((B s i - 224) * 64 + (B s (i + 1) - 128)) * 64 + (B s (i + 2) - 128)
  else (((B s i - 240) * 64 + (B s (i + 1) - 128)) * 64 + (B s (i + 2) - 128)) * 64 + (B s (i + 3) - 128)

theorem cont_iff (s : ByteArray) (i k : Nat) : (decide (i + k < s.size) && (s.get! (i + k)).toNat / 64 == 2) = bet s (i + k) 128 191 := by
  rw [Bool.eq_iff_iff, bet_iff]
  have := B_lt s (i + k)
  simp only [Bool.and_eq_true, decide_eq_true_eq, beq_iff_eq, B] at *
  omega

theorem bet_false {s : ByteArray} {i lo hi : Nat} : bet s i lo hi = false ↔ ¬ (i < s.size ∧ lo ≤ B s i ∧ B s i ≤ hi) := by
  rw [← bet_iff, Bool.not_eq_true]

/-- The table's rows, told by the first byte. -/
theorem usz_cases (s : ByteArray) (i : Nat) (hi : i < s.size) :
    (usz s i = 1 ∧ B s i < 128) ∨
    (usz s i = 2 ∧ 194 ≤ B s i ∧ B s i ≤ 223 ∧ i + 1 < s.size ∧ 128 ≤ B s (i + 1) ∧ B s (i + 1) ≤ 191) ∨
    (usz s i = 3 ∧ 224 ≤ B s i ∧ B s i ≤ 239 ∧ i + 2 < s.size ∧ 128 ≤ B s (i + 1) ∧ B s (i + 1) ≤ 191 ∧ 128 ≤ B s (i + 2) ∧ B s (i + 2) ≤ 191 ∧ (B s i = 224 → 160 ≤ B s (i + 1)) ∧ (B s i = 237 → B s (i + 1) ≤ 159)) ∨
    (usz s i = 4 ∧ 240 ≤ B s i ∧ B s i ≤ 244 ∧ i + 3 < s.size ∧ 128 ≤ B s (i + 1) ∧ B s (i + 1) ≤ 191 ∧ 128 ≤ B s (i + 2) ∧ B s (i + 2) ≤ 191 ∧ 128 ≤ B s (i + 3) ∧ B s (i + 3) ≤ 191 ∧ (B s i = 240 → 144 ≤ B s (i + 1)) ∧ (B s i = 244 → B s (i + 1) ≤ 143)) ∨
    (usz s i = 0 ∧ 128 ≤ B s i ∧
      ¬ (194 ≤ B s i ∧ B s i ≤ 223 ∧ i + 1 < s.size ∧ 128 ≤ B s (i + 1) ∧ B s (i + 1) ≤ 191) ∧
      ¬ (224 ≤ B s i ∧ B s i ≤ 239 ∧ i + 2 < s.size ∧ 128 ≤ B s (i + 1) ∧ B s (i + 1) ≤ 191 ∧ 128 ≤ B s (i + 2) ∧ B s (i + 2) ≤ 191 ∧ (B s i = 224 → 160 ≤ B s (i + 1)) ∧ (B s i = 237 → B s (i + 1) ≤ 159)) ∧
      ¬ (240 ≤ B s i ∧ B s i ≤ 244 ∧ i + 3 < s.size ∧ 128 ≤ B s (i + 1) ∧ B s (i + 1) ≤ 191 ∧ 128 ≤ B s (i + 2) ∧ B s (i + 2) ≤ 191 ∧ 128 ≤ B s (i + 3) ∧ B s (i + 3) ≤ 191 ∧ (B s i = 240 → 144 ≤ B s (i + 1)) ∧ (B s i = 244 → B s (i + 1) ≤ 143))) := by
  unfold usz
  simp only [Bool.and_eq_true, Bool.or_eq_true, bet_iff]
  split
  · left; omega
  · split
    · right; left; omega
    · split
      · right; right; left; omega
      · split
        · right; right; right; left; omega
        · right; right; right; right; omega

set_option maxHeartbeats 4000000 in
set_option maxRecDepth 20000 in
theorem decode_eq (s : ByteArray) (i : Nat) (hi : i < s.size) : Utf8.decode s i = if usz s i = 0 then (65533, 1) else (uval s i (usz s i), usz s i) := by
  have h0 := B_lt s i
  have h1 := B_lt s (i + 1)
  have h2 := B_lt s (i + 2)
  have h3 := B_lt s (i + 3)
  have hc := usz_cases s i hi
  have hval : ∀ c : Nat, Utf8.valid (c : Int) = true ↔ (c < 55296 ∨ (57344 ≤ c ∧ c ≤ 1114111)) := by
    intro c
    unfold Utf8.valid
    rw [Bool.or_eq_true, Bool.and_eq_true, Bool.and_eq_true, decide_eq_true_eq, decide_eq_true_eq, decide_eq_true_eq, decide_eq_true_eq]
    omega
  have e1 := cont_iff s i 1
  have e2 := cont_iff s i 2
  have e3 := cont_iff s i 3
  have e : Utf8.decode s i =
    (if B s i < 128 then (B s i, 1)
    else if (B s i / 32 == 6 && (decide (i + 1 < s.size) && (s.get! (i + 1)).toNat / 64 == 2)) = true then
      (if B s i % 32 * 64 + B s (i + 1) % 64 ≥ 128 then (B s i % 32 * 64 + B s (i + 1) % 64, 2) else (65533, 1))
    else if (B s i / 16 == 14 && (decide (i + 1 < s.size) && (s.get! (i + 1)).toNat / 64 == 2) && (decide (i + 2 < s.size) && (s.get! (i + 2)).toNat / 64 == 2)) = true then
      (if (decide (B s i % 16 * 4096 + B s (i + 1) % 64 * 64 + B s (i + 2) % 64 ≥ 2048) && Utf8.valid ((B s i % 16 * 4096 + B s (i + 1) % 64 * 64 + B s (i + 2) % 64 : Nat) : Int)) = true then (B s i % 16 * 4096 + B s (i + 1) % 64 * 64 + B s (i + 2) % 64, 3) else (65533, 1))
    else if (B s i / 8 == 30 && (decide (i + 1 < s.size) && (s.get! (i + 1)).toNat / 64 == 2) && (decide (i + 2 < s.size) && (s.get! (i + 2)).toNat / 64 == 2) && (decide (i + 3 < s.size) && (s.get! (i + 3)).toNat / 64 == 2)) = true then
      (if (decide (B s i % 8 * 262144 + B s (i + 1) % 64 * 4096 + B s (i + 2) % 64 * 64 + B s (i + 3) % 64 ≥ 65536) && Utf8.valid ((B s i % 8 * 262144 + B s (i + 1) % 64 * 4096 + B s (i + 2) % 64 * 64 + B s (i + 3) % 64 : Nat) : Int)) = true then (B s i % 8 * 262144 + B s (i + 1) % 64 * 4096 + B s (i + 2) % 64 * 64 + B s (i + 3) % 64, 4) else (65533, 1))
    else (65533, 1)) := rfl
  rw [e, e1, e2, e3]
  clear e e1 e2 e3
  simp only [Bool.and_eq_true, bet_iff, beq_iff_eq, decide_eq_true_eq, ge_iff_le, hval]
  clear hval
  unfold uval
  generalize usz s i = u at *
  generalize B s i = b0 at *
  generalize B s (i + 1) = b1 at *
  generalize B s (i + 2) = b2 at *
  generalize B s (i + 3) = b3 at *
  rcases hc with ⟨rfl, hc⟩ | ⟨rfl, hc⟩ | ⟨rfl, hc⟩ | ⟨rfl, hc⟩ | ⟨rfl, hc⟩
  all_goals repeat' split
  all_goals simp only [Prod.mk.injEq, and_true, true_and]
  all_goals omega

/-- How far the piece at i reaches, and its number. -/
def stp (s : ByteArray) (i : Nat) : Nat := if usz s i = 0 then 1 else usz s i
def rn (s : ByteArray) (i : Nat) : Nat := if usz s i = 0 then B s i else uval s i (usz s i)
/-- Where the pieces begin. -/
def cuts (s : ByteArray) : Nat → Nat → List Nat
  | 0, _ => []
  | k + 1, i => if i < s.size then i :: cuts s k (i + stp s i) else []
theorem stp_pos (s : ByteArray) (i : Nat) : 1 ≤ stp s i := by unfold stp; split <;> omega
theorem stp_le (s : ByteArray) (i : Nat) (hi : i < s.size) : i + stp s i ≤ s.size ∧ stp s i ≤ 4 := by
  have hc := usz_cases s i hi
  unfold stp
  split <;> omega
theorem cuts_end (s : ByteArray) (k i : Nat) (h : ¬ i < s.size) : cuts s k i = [] := by
  cases k with
  | zero => rfl
  | succ k => rw [cuts, if_neg h]
theorem cuts_len (s : ByteArray) : ∀ (k i : Nat), (cuts s k i).length ≤ s.size - i
  | 0, _ => by simp [cuts]
  | k + 1, i => by
    rw [cuts]
    split
    · have := cuts_len s k (i + stp s i)
      have := stp_pos s i
      simp only [List.length_cons]
      omega
    · simp
theorem cuts_fuel (s : ByteArray) : ∀ (k m i : Nat), s.size ≤ i + k → s.size ≤ i + m → cuts s k i = cuts s m i
  | 0, m, i, h, _ => by rw [cuts_end s m i (by omega)]; rfl
  | k + 1, 0, i, _, h => by rw [cuts_end s (k + 1) i (by omega)]; rfl
  | k + 1, m + 1, i, h, h2 => by
    have := stp_pos s i
    rw [cuts, cuts]
    split
    · rw [cuts_fuel s k m (i + stp s i) (by omega) (by omega)]
    · rfl
/-- The range of a rune by its size. -/
theorem uval_range (s : ByteArray) (i : Nat) (hi : i < s.size) (hu : usz s i ≠ 0) :
    (usz s i = 1 ∧ uval s i (usz s i) < 128) ∨ (usz s i = 2 ∧ 128 ≤ uval s i (usz s i) ∧ uval s i (usz s i) ≤ 2047) ∨
    (usz s i = 3 ∧ 2048 ≤ uval s i (usz s i) ∧ uval s i (usz s i) ≤ 65535 ∧ ¬ (55296 ≤ uval s i (usz s i) ∧ uval s i (usz s i) ≤ 57343)) ∨
    (usz s i = 4 ∧ 65536 ≤ uval s i (usz s i) ∧ uval s i (usz s i) ≤ 1114111) := by
  rcases usz_cases s i hi with ⟨h, hc⟩ | ⟨h, hc⟩ | ⟨h, hc⟩ | ⟨h, hc⟩ | ⟨h, hc⟩
  all_goals (rw [h] at hu ⊢; simp only [uval, if_true, if_false, reduceCtorEq]; try simp)
  all_goals omega
/-- U+FFFD itself, by its bytes. -/
theorem fffd (s : ByteArray) (i : Nat) (hi : i < s.size) : (usz s i ≠ 0 ∧ uval s i (usz s i) = 65533) ↔ (i + 2 < s.size ∧ B s i = 239 ∧ B s (i + 1) = 191 ∧ B s (i + 2) = 189) := by
  rcases usz_cases s i hi with ⟨h, hc⟩ | ⟨h, hc⟩ | ⟨h, hc⟩ | ⟨h, hc⟩ | ⟨h, hc⟩
  all_goals (rw [h]; simp only [uval, if_true, if_false, reduceCtorEq]; try simp)
  all_goals omega
theorem B_list (s : ByteArray) (i : Nat) : B s i = (s.data.toList.getD i 0).toNat := by
  show (s.data[i]!).toNat = _
  rw [List.getD_eq_getElem?_getD, Array.getElem?_toList, Array.getElem!_eq_getD, Array.getD_eq_getD_getElem?]
  rfl
theorem drop_take3 {l : List UInt8} {i : Nat} (h : i + 2 < l.length) : (l.drop i).take 3 = [l.getD i 0, l.getD (i + 1) 0, l.getD (i + 2) 0] := by
  rw [List.drop_eq_getElem_cons (by omega), List.drop_eq_getElem_cons (by omega), List.drop_eq_getElem_cons (by omega)]
  rw [List.take_succ_cons, List.take_succ_cons, List.take_succ_cons, List.take_zero]
  simp [List.getD_eq_getElem?_getD, List.getElem?_eq_getElem (show i < l.length by omega), List.getElem?_eq_getElem (show i + 1 < l.length by omega), List.getElem?_eq_getElem (show i + 2 < l.length by omega)]
end Go.Proofs.Ytghhpgpcbnkamaa.U
