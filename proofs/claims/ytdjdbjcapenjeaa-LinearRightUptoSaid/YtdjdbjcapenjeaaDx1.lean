/- Runs of functions on abstract values, 1. -/
import Derived.Calls
import Derived.Orders
import Derived.Below
import Derived.Deep.AppendSrc
import Derived.Laws.OwnMore
import Derived.Laws.BytesArg
import Derived.KernelRfl
/- Abstract values and what they stand for in a world. -/
namespace Go.Proofs.Ytdjdbjcapenjeaa.Dx
open Go Go.RowKit
set_option linter.unusedVariables false

/-- What an abstract value is: plain data, data in memory that nobody writes any more, or a reference into memory of one's own. -/
inductive Ty where
  | int (k : IntKind) | bool | str | nl | nilp | nilm | nili | nilf
  | unit | pair (a b : Ty) | arr (n : Nat) (t : Ty)
  | sl (t : Ty) | ptr (t : Ty) | ref | tag | ifc (t : TypeId) (a : Ty)
  deriving DecidableEq

inductive PE where
  | fld (k off : Nat)
  | idx (i sz : Nat)

def PE.off : PE → Nat
  | .fld _ o => o
  | .idx i s => i * s

def offs : List PE → Nat
  | [] => 0
  | p :: r => p.off + offs r

inductive Ref where
  | dead
  | ptr (b : Nat) (p : List PE)
  | sl (b off len : Nat)
  | mp (b : Nat)
  | fn (f : FuncId) (caps : List Nat)

@[reducible] def Ty.D : Ty → Type
  | .int _ => Int
  | .bool => Bool
  | .str => ByteArray
  | .nl | .nilp | .nilm | .nili | .nilf | .unit => Unit
  | .pair a b => a.D × b.D
  | .arr _ t => List t.D
  | .sl t => List t.D
  | .ptr t => t.D
  | .ref => Ref
  | .tag => TypeId
  | .ifc _ a => a.D

/-- Is it laid out as cells of a struct or an array? -/
def Ty.agg : Ty → Bool
  | .unit | .pair _ _ | .arr _ _ => true
  | _ => false

/-- How many cells. -/
def Ty.size : Ty → Nat
  | .unit => 0
  | .pair a b => a.size + b.size
  | .arr n t => n * t.size
  | _ => 1

/-- Does it bear references? -/
def Ty.refs : Ty → Bool
  | .pair a b => a.refs || b.refs
  | .arr _ t => t.refs
  | .sl t => t.refs
  | .ptr t => t.refs
  | .ref => true
  | .ifc _ a => a.refs
  | _ => false

inductive AV where
  | v (τ : Ty) (x : τ.D)
  | tup (l : List ((τ : Ty) × τ.D))
  | dead

inductive Place where
  | none
  | nil
  | blk (g cap sz : Nat)

/-- The addresses of the captured variables. -/
def CapRel (ρ : Nat → Place) : List Nat → List Value → Prop
  | [], vs => vs = []
  | b :: r, vs => ∃ g c s vs', ρ b = .blk g c s ∧ vs = .pointer (some ⟨g, 0, none⟩) :: vs' ∧ CapRel ρ r vs'

def RefRel (ρ : Nat → Place) : Ref → Value → Prop
  | .dead, v => v.oneCell' = true
  | .ptr b p, v => ∃ g c s, ρ b = .blk g c s ∧ v = .pointer (some ⟨g, offs p, none⟩)
  | .sl b off len, v => match ρ b with
    | .none => False
    | .nil => off = 0 ∧ len = 0 ∧ v = .slice none 0 0
    | .blk g c s => ∃ a : Addr, off + len ≤ c ∧ v = .slice (some a) len (c - off) ∧ a.block = g ∧ a.spot = none ∧ (off < c → a.off = off * s)
  | .mp b, v => ∃ g c s, ρ b = .blk g c s ∧ v = .map (some g)
  | .fn f caps, v => ∃ vs, v = .func (.func f) #[] vs ∧ CapRel ρ caps vs.toList

/-- These cells stand from that address on, in a block that stays as it is. -/
def Imm (I : Nat → Option Obj) (a : Addr) (us : List Value) : Prop :=
  ∃ c e fz pre post, I a.block = some (.cells c e fz) ∧ c.toList = pre ++ us ++ post ∧ pre.length = a.off

def Flats {α : Type} (R : α → List Value → Prop) : List α → List Value → Prop
  | [], vs => vs = []
  | x :: xs, vs => ∃ u v, vs = u ++ v ∧ R x u ∧ Flats R xs v

/-- The cells that an abstract value stands for. -/
def Flat (I : Nat → Option Obj) (ρ : Nat → Place) : (τ : Ty) → τ.D → List Value → Prop
  | .int k, n, vs => vs = [.int k n]
  | .bool, b, vs => vs = [.bool b]
  | .str, s, vs => vs = [.string s]
  | .nl, _, vs => vs = [.slice none 0 0]
  | .nilp, _, vs => vs = [.pointer none]
  | .nilm, _, vs => vs = [.map none]
  | .nili, _, vs => vs = [.nilIface]
  | .nilf, _, vs => vs = [.nilFunc]
  | .unit, _, vs => vs = []
  | .pair a b, x, vs => ∃ u v, vs = u ++ v ∧ Flat I ρ a x.1 u ∧ Flat I ρ b x.2 v
  | .arr n t, xs, vs => xs.length = n ∧ Flats (Flat I ρ t) xs vs
  | .sl t, xs, vs => t.refs = false ∧ ∃ A c, vs = [.slice A xs.length c] ∧ xs.length ≤ c ∧ (xs = [] ∨ ∃ a us, A = some a ∧ a.spot = none ∧ Imm I a us ∧ Flats (Flat I ρ t) xs us)
  | .ptr t, x, vs => t.refs = false ∧ ∃ a us, vs = [.pointer (some a)] ∧ a.spot = none ∧ Imm I a us ∧ Flat I ρ t x us
  | .ref, r, vs => ∃ v, vs = [v] ∧ RefRel ρ r v
  | .tag, t, vs => vs = [.iface t (.agg #[])]
  | .ifc t a, x, vs => ∃ v us, vs = [.iface t v] ∧ Flat I ρ a x us ∧ (if a.agg then v = .agg us.toArray else us = [v])

/-- The value that an abstract value stands for. -/
def Val (I : Nat → Option Obj) (ρ : Nat → Place) (τ : Ty) (x : τ.D) (v : Value) : Prop :=
  ∃ us, Flat I ρ τ x us ∧ (if τ.agg then v = .agg us.toArray else us = [v])

def Vals (I : Nat → Option Obj) (ρ : Nat → Place) : List ((τ : Ty) × τ.D) → List Value → Prop
  | [], vs => vs = []
  | x :: xs, vs => ∃ v vs', vs = v :: vs' ∧ Val I ρ x.1 x.2 v ∧ Vals I ρ xs vs'

def AVRel (I : Nat → Option Obj) (ρ : Nat → Place) : AV → Value → Prop
  | .v τ x, v => Val I ρ τ x v
  | .tup l, v => ∃ vs, v = .tuple vs ∧ Vals I ρ l vs.toList
  | .dead, _ => True

inductive HObj where
  | dead
  | var (τ : Ty) (x : τ.D) (t : TypeId)
  | row (τ : Ty) (xs : List τ.D) (t : TypeId)
  | map (κ τ : Ty) (es : List (κ.D × τ.D))

def EntRel (I : Nat → Option Obj) (ρ : Nat → Place) (κ τ : Ty) : List (κ.D × τ.D) → List MapEntry → Prop
  | [], ms => ms = []
  | e :: es, ms => ∃ m ms', ms = m :: ms' ∧ Val I ρ κ e.1 m.key ∧ Val I ρ τ e.2 m.val ∧ EntRel I ρ κ τ es ms'

def HRel (I : Nat → Option Obj) (ρ : Nat → Place) (w : World) (i : Nat) : HObj → Prop
  | .dead => True
  | .var τ x t => ∃ g c s us, ρ i = .blk g c s ∧ w.heap[g]? = some (.cells us.toArray t (0, 0)) ∧ Flat I ρ τ x us
  | .row τ xs t => (ρ i = .nil ∧ xs = []) ∨ ∃ g c us spare, ρ i = .blk g c τ.size ∧ w.heap[g]? = some (.cells (us ++ spare).toArray t (0, 0)) ∧ (us ++ spare).length = c * τ.size ∧ xs.length ≤ c ∧ Flats (Flat I ρ τ) xs us
  | .map κ τ es => ∃ g c s ms clock, ρ i = .blk g c s ∧ w.heap[g]? = some (.map ms clock) ∧ EntRel I ρ κ τ es ms.toList ∧ (∀ m ∈ ms.toList, m.born < clock) ∧ (ms.toList.map (·.born)).Nodup

def HObj.live : HObj → Bool
  | .dead => false
  | _ => true

structure Base where
  Z : Nat → Option Obj
  os : Os
  tape : Nat → Question → Nat
  output : Array (Nat × ByteArray)
  n0 : Nat

structure Inv (B : Base) (I : Nat → Option Obj) (ρ : Nat → Place) (H : List HObj) (w : World) : Prop where
  imm : ∀ g o, I g = some o → w.heap[g]? = some o
  dis : ∀ g o, I g = some o → B.Z g = none
  frm : ∀ g o, B.Z g = some o → w.heap[g]? = some o
  own : ∀ i o, H[i]? = some o → HRel I ρ w i o
  sep : ∀ i o, H[i]? = some o → o.live = true → ∀ g c s, ρ i = .blk g c s → I g = none ∧ B.Z g = none ∧ g < w.heap.size
  inj : ∀ i j oi oj, H[i]? = some oi → H[j]? = some oj → oi.live = true → oj.live = true → ∀ g c s c' s', ρ i = .blk g c s → ρ j = .blk g c' s' → i = j
  fresh : ∀ b, H.length ≤ b → ρ b = .none
  os : w.os = B.os
  tape : w.tape = B.tape
  output : w.output = B.output
  size : B.n0 ≤ w.heap.size

/-! ### The layout -/
theorem flats_length {α : Type} {R : α → List Value → Prop} {s : Nat} (hR : ∀ x vs, R x vs → vs.length = s) : ∀ xs vs, Flats R xs vs → vs.length = xs.length * s
  | [], vs, h => by simp only [Flats] at h; subst h; simp
  | x :: xs, vs, h => by
    obtain ⟨u, v, rfl, h1, h2⟩ := h
    rw [List.length_append, hR _ _ h1, flats_length hR xs v h2, List.length_cons, Nat.succ_mul, Nat.add_comm]
theorem flat_length {I : Nat → Option Obj} {ρ : Nat → Place} : ∀ (τ : Ty) (x : τ.D) (vs : List Value), Flat I ρ τ x vs → vs.length = τ.size
  | .int _, _, _, h => by simp only [Flat] at h; subst h; rfl
  | .bool, _, _, h => by simp only [Flat] at h; subst h; rfl
  | .str, _, _, h => by simp only [Flat] at h; subst h; rfl
  | .nl, _, _, h => by simp only [Flat] at h; subst h; rfl
  | .nilp, _, _, h => by simp only [Flat] at h; subst h; rfl
  | .nilm, _, _, h => by simp only [Flat] at h; subst h; rfl
  | .nili, _, _, h => by simp only [Flat] at h; subst h; rfl
  | .nilf, _, _, h => by simp only [Flat] at h; subst h; rfl
  | .unit, _, _, h => by simp only [Flat] at h; subst h; rfl
  | .pair a b, x, vs, h => by
    obtain ⟨u, v, rfl, h1, h2⟩ := h
    rw [List.length_append, flat_length a _ _ h1, flat_length b _ _ h2]; rfl
  | .arr n t, xs, vs, h => by
    obtain ⟨h1, h2⟩ := h
    rw [flats_length (fun x vs h => flat_length t x vs h) xs vs h2, h1]; rfl
  | .sl t, _, _, h => by obtain ⟨_, A, c, rfl, _⟩ := h; rfl
  | .ptr t, _, _, h => by obtain ⟨_, A, c, rfl, _⟩ := h; rfl
  | .ref, _, _, h => by obtain ⟨v, rfl, _⟩ := h; rfl
  | .tag, _, _, h => by simp only [Flat] at h; subst h; rfl
  | .ifc _ _, _, _, h => by obtain ⟨v, us, rfl, _⟩ := h; rfl

/-- More that stays as it is. -/
def Sub (I J : Nat → Option Obj) : Prop := ∀ g o, I g = some o → J g = some o
theorem Sub.refl (I : Nat → Option Obj) : Sub I I := fun _ _ h => h
theorem Sub.trans {I J K : Nat → Option Obj} (h : Sub I J) (k : Sub J K) : Sub I K := fun g o x => k g o (h g o x)

theorem Imm.mono {I J : Nat → Option Obj} (h : Sub I J) {a : Addr} {us : List Value} (k : Imm I a us) : Imm J a us := by
  obtain ⟨c, e, fz, pre, post, h1, h2⟩ := k
  exact ⟨c, e, fz, pre, post, h _ _ h1, h2⟩

/-- What a reference stands for does not hang on blocks that it does not name. -/
def Ref.within (p : Nat → Prop) : Ref → Prop
  | .dead => True
  | .ptr b _ => p b
  | .sl b _ _ => p b
  | .mp b => p b
  | .fn _ caps => ∀ b ∈ caps, p b

theorem capRel_congr {ρ ρ' : Nat → Place} : ∀ (caps : List Nat) (vs : List Value), (∀ b ∈ caps, ρ' b = ρ b) → CapRel ρ caps vs → CapRel ρ' caps vs
  | [], _, _, h => h
  | b :: r, vs, hp, h => by
    obtain ⟨g, c, s, vs', h1, h2, h3⟩ := h
    exact ⟨g, c, s, vs', by rw [hp b (List.mem_cons_self ..)]; exact h1, h2, capRel_congr r vs' (fun b hb => hp b (List.mem_cons_of_mem _ hb)) h3⟩

theorem refRel_congr {ρ ρ' : Nat → Place} {r : Ref} {v : Value} (hp : r.within fun b => ρ' b = ρ b) (h : RefRel ρ r v) : RefRel ρ' r v := by
  cases r with
  | dead => exact h
  | ptr b p => simp only [RefRel] at h ⊢; rw [show ρ' b = ρ b from hp]; exact h
  | sl b o l => simp only [RefRel] at h ⊢; rw [show ρ' b = ρ b from hp]; exact h
  | mp b => simp only [RefRel] at h ⊢; rw [show ρ' b = ρ b from hp]; exact h
  | fn f caps => obtain ⟨vs, h1, h2⟩ := h; exact ⟨vs, h1, capRel_congr caps _ hp h2⟩

theorem flats_imp {α : Type} {R R' : α → List Value → Prop} : ∀ (xs : List α) (vs : List Value), (∀ x ∈ xs, ∀ us, R x us → R' x us) → Flats R xs vs → Flats R' xs vs
  | [], _, _, h => h
  | x :: xs, vs, hi, h => by
    obtain ⟨u, v, h1, h2, h3⟩ := h
    exact ⟨u, v, h1, hi x (List.mem_cons_self ..) u h2, flats_imp xs v (fun y hy => hi y (List.mem_cons_of_mem _ hy)) h3⟩

/-- Every reference in an abstract value names blocks of which p holds. -/
def Names (p : Nat → Prop) : (τ : Ty) → τ.D → Prop
  | .pair a b, x => Names p a x.1 ∧ Names p b x.2
  | .arr _ t, xs => ∀ x ∈ xs, Names p t x
  | .ref, r => r.within p
  | .ifc _ a, x => Names p a x
  | _, _ => True

theorem names_norefs {p : Nat → Prop} : ∀ (τ : Ty) (x : τ.D), τ.refs = false → Names p τ x
  | .int _, _, _ | .bool, _, _ | .str, _, _ | .nl, _, _ | .nilp, _, _ | .nilm, _, _ | .nili, _, _ | .nilf, _, _ | .unit, _, _ | .tag, _, _ | .sl _, _, _ | .ptr _, _, _ => trivial
  | .pair a b, x, h => by
    simp only [Ty.refs, Bool.or_eq_false_iff] at h
    exact ⟨names_norefs a _ h.1, names_norefs b _ h.2⟩
  | .arr n t, xs, h => fun x _ => names_norefs t x h
  | .ifc _ a, x, h => names_norefs a x h
theorem names_all : ∀ (τ : Ty) (x : τ.D) {p : Nat → Prop}, (∀ b, p b) → Names p τ x
  | .int _, _, _, _ | .bool, _, _, _ | .str, _, _, _ | .nl, _, _, _ | .nilp, _, _, _ | .nilm, _, _, _ | .nili, _, _, _ | .nilf, _, _, _ | .unit, _, _, _ | .tag, _, _, _ | .sl _, _, _, _ | .ptr _, _, _, _ => trivial
  | .pair a b, x, p, h => ⟨names_all a _ h, names_all b _ h⟩
  | .arr n t, xs, p, h => fun x _ => names_all t x h
  | .ifc _ a, x, p, h => names_all a x h
  | .ref, r, p, h => by cases r <;> simp [Names, Ref.within] <;> intros <;> exact h _
theorem names_imp {p q : Nat → Prop} (hpq : ∀ b, p b → q b) : ∀ (τ : Ty) (x : τ.D), Names p τ x → Names q τ x
  | .int _, _, _ | .bool, _, _ | .str, _, _ | .nl, _, _ | .nilp, _, _ | .nilm, _, _ | .nili, _, _ | .nilf, _, _ | .unit, _, _ | .tag, _, _ | .sl _, _, _ | .ptr _, _, _ => trivial
  | .pair a b, x, h => ⟨names_imp hpq a _ h.1, names_imp hpq b _ h.2⟩
  | .arr n t, xs, h => fun x hx => names_imp hpq t x (h x hx)
  | .ifc _ a, x, h => names_imp hpq a x h
  | .ref, r, h => by
    cases r with
    | dead => trivial
    | ptr b _ => exact hpq _ h
    | sl b _ _ => exact hpq _ h
    | mp b => exact hpq _ h
    | fn f caps => exact fun b hb => hpq _ (h b hb)

theorem flat_mono {I J : Nat → Option Obj} {ρ ρ' : Nat → Place} (hI : Sub I J) : ∀ (τ : Ty) (x : τ.D) (vs : List Value), Names (fun b => ρ' b = ρ b) τ x → Flat I ρ τ x vs → Flat J ρ' τ x vs
  | .int _, _, _, _, h => h
  | .bool, _, _, _, h => h
  | .str, _, _, _, h => h
  | .nl, _, _, _, h => h
  | .nilp, _, _, _, h => h
  | .nilm, _, _, _, h => h
  | .nili, _, _, _, h => h
  | .nilf, _, _, _, h => h
  | .unit, _, _, _, h => h
  | .pair a b, x, vs, hn, h => by
    obtain ⟨u, v, h1, h2, h3⟩ := h
    exact ⟨u, v, h1, flat_mono hI a _ u hn.1 h2, flat_mono hI b _ v hn.2 h3⟩
  | .arr n t, xs, vs, hn, h => ⟨h.1, flats_imp xs vs (fun x hx us hu => flat_mono hI t x us (hn x hx) hu) h.2⟩
  | .sl t, xs, vs, hn, h => by
    obtain ⟨h0, A, c, h1, h2, h3⟩ := h
    refine ⟨h0, A, c, h1, h2, h3.imp id ?_⟩
    rintro ⟨a, us, h4, h5, h6, h7⟩
    exact ⟨a, us, h4, h5, h6.mono hI, flats_imp xs us (fun x hx us hu => flat_mono hI t x us (names_norefs t x h0) hu) h7⟩
  | .ptr t, x, vs, hn, h => by
    obtain ⟨h0, a, us, h1, h2, h3, h4⟩ := h
    exact ⟨h0, a, us, h1, h2, h3.mono hI, flat_mono hI t x us (names_norefs t x h0) h4⟩
  | .ref, r, vs, hn, h => by
    obtain ⟨v, h1, h2⟩ := h
    exact ⟨v, h1, refRel_congr hn h2⟩
  | .tag, _, _, _, h => h
  | .ifc _ a, x, vs, hn, h => by
    obtain ⟨v, us, h1, h2, h3⟩ := h
    exact ⟨v, us, h1, flat_mono hI a x us hn h2, h3⟩

end Go.Proofs.Ytdjdbjcapenjeaa.Dx

/- A run of a function on abstract values: one order, no addresses. -/
namespace Go.Proofs.Ytdjdbjcapenjeaa.Dx
open Go
set_option linter.unusedVariables false

def seek {α : Type} : List (Nat × α) → Nat → Option α
  | [], _ => none
  | p :: r, t => cond (Nat.beq p.1 t) (some p.2) (seek r t)

structure TI where
  desc : TypeDesc
  size : Nat
  bytes : Nat
  zero : Option Ty

def Ty.dflt : (τ : Ty) → τ.D
  | .int _ => (0 : Int)
  | .bool => false
  | .str => ByteArray.empty
  | .nl | .nilp | .nilm | .nili | .nilf | .unit => ()
  | .pair a b => (a.dflt, b.dflt)
  | .arr n t => List.replicate n t.dflt
  | .sl _ => []
  | .ptr t => t.dflt
  | .ref => .dead
  | .tag => (0 : Nat)
  | .ifc _ a => a.dflt

abbrev SV := (τ : Ty) × τ.D
abbrev PV := List Prop × AV
def bad : PV := ([False], .dead)

def constAV : Value → AV
  | .bool b => .v .bool b
  | .int k n => .v (.int k) n
  | .string s => .v .str s
  | .slice none 0 0 => .v .nl ()
  | .pointer none => .v .nilp ()
  | .map none => .v .nilm ()
  | .nilIface => .v .nili ()
  | .nilFunc => .v .nilf ()
  | _ => .dead

def evT (T : List AV) : Operand → AV
  | .tmp t => T.getD t .dead
  | .const v => constAV v
  | .global _ => .dead
  | .func f => .v .ref (.fn f [])

/-- Field number k, which begins at that cell. -/
def getK : (τ : Ty) → τ.D → Nat → Nat → AV
  | .pair a b, x, 0, off => cond (Nat.beq off 0) (.v a x.1) .dead
  | .pair a b, x, k + 1, off => cond (Nat.ble a.size off) (getK b x.2 k (off - a.size)) .dead
  | _, _, _, _ => .dead

def same (a b : Ty) : Bool := (a.agg == b.agg) && Nat.beq a.size b.size

def setK : (τ : Ty) → τ.D → Nat → Nat → (σ : Ty) → σ.D → Option SV
  | .pair a b, x, 0, off, σ, y => cond (Nat.beq off 0 && same a σ) (some ⟨.pair σ b, (y, x.2)⟩) none
  | .pair a b, x, k + 1, off, σ, y => cond (Nat.ble a.size off) (match setK b x.2 k (off - a.size) σ y with | some ⟨c, z⟩ => some ⟨.pair a c, (x.1, z)⟩ | none => none) none
  | _, _, _, _, _, _ => none

def getP : List PE → (τ : Ty) → τ.D → PV
  | [], τ, x => ([], .v τ x)
  | .fld k off :: r, τ, x => match getK τ x k off with | .v σ y => getP r σ y | _ => bad
  | .idx i s :: r, τ, x => match τ, x with
    | .arr _ t, xs => cond (Nat.beq s t.size) (let q := getP r t (xs.getD i t.dflt); ((i < xs.length) :: q.1, q.2)) bad
    | _, _ => bad

def setP : List PE → (τ : Ty) → τ.D → (σ : Ty) → σ.D → List Prop × Option SV
  | [], τ, _, σ, y => ([], cond (same τ σ) (some ⟨σ, y⟩) none)
  | .fld k off :: r, τ, x, σ, y => match getK τ x k off with
    | .v a z => match setP r a z σ y with | (c, some ⟨a', z'⟩) => (c, setK τ x k off a' z') | (c, none) => (c, none)
    | _ => ([], none)
  | .idx i s :: r, τ, x, σ, y => match τ, x with
    | .arr n t, xs => cond (Nat.beq s t.size) (match setP r t (xs.getD i t.dflt) σ y with
      | (c, some ⟨t', z⟩) => if h : t' = t then ((i < xs.length) :: c, some ⟨.arr n t, xs.set i (h ▸ z)⟩) else (c, none)
      | (c, none) => (c, none)) ([], none)
    | _, _ => ([], none)

def getH (p : List PE) : HObj → PV
  | .var τ x _ => getP p τ x
  | .row τ xs _ => match p with
    | .idx i s :: r => cond (Nat.beq s τ.size) (let q := getP r τ (xs.getD i τ.dflt); ((i < xs.length) :: q.1, q.2)) bad
    | _ => bad
  | _ => bad

def setH (p : List PE) (σ : Ty) (y : σ.D) : HObj → List Prop × Option HObj
  | .var τ x t => match setP p τ x σ y with | (c, some ⟨τ', x'⟩) => (c, some (.var τ' x' t)) | (c, none) => (c, none)
  | .row τ xs t => match p with
    | .idx i s :: r => cond (Nat.beq s τ.size) (match setP r τ (xs.getD i τ.dflt) σ y with
      | (c, some ⟨t', z⟩) => if h : t' = τ then ((i < xs.length) :: c, some (.row τ (xs.set i (h ▸ z)) t)) else (c, none)
      | (c, none) => (c, none)) ([], none)
    | _ => ([], none)
  | _ => ([], none)

/-! ### References that are struck -/
def Ref.hits (p : Nat → Bool) : Ref → Bool
  | .dead => false
  | .ptr b _ => p b
  | .sl b _ _ => p b
  | .mp b => p b
  | .fn _ caps => caps.any p
def Ref.kill (p : Nat → Bool) (r : Ref) : Ref := cond (r.hits p) .dead r
def killT (p : Nat → Bool) : (τ : Ty) → τ.D → τ.D
  | .pair a b, x => (killT p a x.1, killT p b x.2)
  | .arr _ t, xs => xs.map (killT p t)
  | .ref, r => r.kill p
  | .ifc _ a, x => killT p a x
  | _, x => x
def killR (p : Nat → Bool) (τ : Ty) (x : τ.D) : τ.D := cond τ.refs (killT p τ x) x
def AV.kill (p : Nat → Bool) : AV → AV
  | .v τ x => .v τ (killR p τ x)
  | .tup l => .tup (l.map fun s => ⟨s.1, killR p s.1 s.2⟩)
  | .dead => .dead
def HObj.kill (p : Nat → Bool) : HObj → HObj
  | .dead => .dead
  | .var τ x t => .var τ (killR p τ x) t
  | .row τ xs t => .row τ (cond τ.refs (xs.map (killT p τ)) xs) t
  | .map κ τ es => .map κ τ (cond (κ.refs || τ.refs) (es.map fun e => (killT p κ e.1, killT p τ e.2)) es)

/-! ### Which blocks a value names, and other names for them -/
def Ref.ids : Ref → List Nat
  | .dead => []
  | .ptr b _ => [b]
  | .sl b _ _ => [b]
  | .mp b => [b]
  | .fn _ caps => caps
def idsT : (τ : Ty) → τ.D → List Nat
  | .pair a b, x => idsT a x.1 ++ idsT b x.2
  | .arr _ t, xs => xs.flatMap (idsT t)
  | .ref, r => r.ids
  | .ifc _ a, x => idsT a x
  | _, _ => []
def idsR (τ : Ty) (x : τ.D) : List Nat := cond τ.refs (idsT τ x) []
def AV.ids : AV → List Nat
  | .v τ x => idsR τ x
  | .tup l => l.flatMap fun s => idsR s.1 s.2
  | .dead => []
def HObj.ids : HObj → List Nat
  | .dead => []
  | .var τ x _ => idsR τ x
  | .row τ xs _ => cond τ.refs (xs.flatMap (idsT τ)) []
  | .map κ τ es => cond (κ.refs || τ.refs) (es.flatMap fun e => idsT κ e.1 ++ idsT τ e.2) []
def Ref.ren (g : Nat → Nat) : Ref → Ref
  | .dead => .dead
  | .ptr b p => .ptr (g b) p
  | .sl b o l => .sl (g b) o l
  | .mp b => .mp (g b)
  | .fn f caps => .fn f (caps.map g)
def renT (g : Nat → Nat) : (τ : Ty) → τ.D → τ.D
  | .pair a b, x => (renT g a x.1, renT g b x.2)
  | .arr _ t, xs => xs.map (renT g t)
  | .ref, r => r.ren g
  | .ifc _ a, x => renT g a x
  | _, x => x
def renR (g : Nat → Nat) (τ : Ty) (x : τ.D) : τ.D := cond τ.refs (renT g τ x) x
def AV.ren (g : Nat → Nat) : AV → AV
  | .v τ x => .v τ (renR g τ x)
  | .tup l => .tup (l.map fun s => ⟨s.1, renR g s.1 s.2⟩)
  | .dead => .dead
def HObj.ren (g : Nat → Nat) : HObj → HObj
  | .dead => .dead
  | .var τ x t => .var τ (renR g τ x) t
  | .row τ xs t => .row τ (cond τ.refs (xs.map (renT g τ)) xs) t
  | .map κ τ es => .map κ τ (cond (κ.refs || τ.refs) (es.map fun e => (renT g κ e.1, renT g τ e.2)) es)
def memb (b : Nat) : List Nat → Bool
  | [] => false
  | x :: r => cond (Nat.beq x b) true (memb b r)
def addTo : List Nat → List Nat → List Nat
  | l, [] => l
  | l, b :: r => addTo (cond (memb b l) l (l ++ [b])) r
/-- Where a number stands in a list. -/
def place (b : Nat) : List Nat → Nat
  | [] => 0
  | x :: r => cond (Nat.beq x b) 0 (place b r + 1)
def objIds (H : List HObj) (b : Nat) : List Nat := match H[b]? with | some o => o.ids | none => []
/-- All blocks that can be come to. -/
def reach (H : List HObj) : Nat → List Nat → List Nat
  | 0, l => l
  | n + 1, l => reach H n (addTo l (l.flatMap (objIds H)))
/-- The list is shut: what its blocks name is in it, and they are all there. -/
def shut (H : List HObj) (l : List Nat) : Bool := l.all fun b => Nat.blt b H.length && (objIds H b).all fun c => memb c l
def HObj.isRow : HObj → Bool
  | .row _ _ _ => true
  | _ => false
def rowAt (H : List HObj) (b : Nat) : Bool := match H[b]? with | some o => o.isRow | none => false
/-- Each is set. -/
def setAll : List HObj → List Nat → List HObj → List HObj
  | H, b :: l, o :: r => setAll (H.set b o) l r
  | H, _, _ => H

inductive Eff where
  | val (p : PV)
  | imm (c : List Prop) (v : AV)
  | new (c : List Prop) (v : Nat → AV) (o : HObj)
  | set (c : List Prop) (b : Nat) (o : HObj)
  | app (c : List Prop) (b : Nat) (o : HObj) (n : Nat)
  | call (f : FuncId) (args : List AV)
  | bad

abbrev CF := List AV → List HObj → (AV → List HObj → Prop) → Prop

structure St where
  T : List AV
  H : List HObj

structure K where
  base : Nat
  /-- how many blocks there were at the heads of the loops that we are in -/
  lims : List Nat
  normal : St → Prop
  exit : Nat → St → Prop
  ret : St → Prop

inductive Gst where
  /-- a nil slice in that slot becomes a row of one's own -/
  | own (slot : Nat) (τ : Ty) (t : TypeId)
  /-- a nil slice in a field of the struct in that slot becomes a row of one's own -/
  | fld (slot k off : Nat) (τ : Ty) (t : TypeId)

structure Ctx where
  ti : List (Nat × TI)
  meth : TypeId → String → Option FuncId
  can : FuncId → Bool
  pur : FuncId → Option (List Ty × (List AV → PV))
  loops : Nat → Option (List Nat × (K → Nat → St → Prop))
  gh : Nat → List Gst
  /-- slots whose row stays as it is from then on -/
  frz : List Nat := []
  /-- slots in which nil becomes a row of one's own -/
  owns : Nat → Option (Ty × TypeId) := fun _ => none
  /-- slots in which a struct's nil fields become rows of one's own -/
  flds : Nat → List Gst := fun _ => []
  /-- what lives on where a block is left, and how many loops are left with it, less one -/
  xk : Nat → Option (List Nat × Nat) := fun _ => none
  /-- what lives on at the function's end -/
  rk : Option (List Nat × Nat) := none
  /-- what lives on ahead of a statement, and how many blocks -/
  gk : Nat → Option (List Nat × Nat) := fun _ => none
  /-- statements by contract: what lives on behind one, how many blocks, what it does -/
  cuts : Nat → Option (List Nat × Nat × (St → (St → Prop) → Prop)) := fun _ => none

/-! ### Maps whose keys are numbers -/
def lookA {α : Type} (d : α) : List (Int × α) → Int → α
  | [], _ => d
  | e :: r, n => cond (n == e.1) e.2 (lookA d r n)
def hasA {α : Type} : List (Int × α) → Int → Bool
  | [], _ => false
  | e :: r, n => cond (n == e.1) true (hasA r n)
def setA {α : Type} : List (Int × α) → Int → α → List (Int × α)
  | [], n, x => [(n, x)]
  | e :: r, n, x => cond (n == e.1) ((n, x) :: r) (e :: setA r n x)

def intD : AV → Option Int
  | .v (.int _) n => some n
  | _ => none
def byteAt (s : ByteArray) (i : Nat) : Int := ((s.data.toList.getD i 0).toNat : Int)
def bytesOf (s : ByteArray) : List Int := s.data.toList.map fun b => (b.toNat : Int)
abbrev strOf (xs : List Int) : ByteArray := strOfNums xs
def addOff : Nat → Nat → Nat
  | 0, n => n
  | o + 1, n => o + 1 + n

section
variable (C : Ctx)
def sizeT (t : TypeId) : Nat := match seek C.ti t with | some i => i.size | none => 0
def bytesT (t : TypeId) : Nat := match seek C.ti t with | some i => i.bytes | none => 0
def descT (t : TypeId) : TypeDesc := match seek C.ti t with | some i => i.desc | none => .invalid
def aggD : TypeDesc → Bool
  | .struct _ | .array _ _ => true
  | _ => false
/-- Is a value of that kind what type t holds? -/
def lay (t : TypeId) (τ : Ty) : Bool := match seek C.ti t with | some i => (aggD i.desc == τ.agg) && Nat.beq i.size τ.size | none => false
def layPV (t : TypeId) (q : PV) : PV := match q.2 with | .v τ _ => cond (lay C t τ) q bad | _ => bad

def cmpD (op : BinOp) (x y : Int) : Option Bool :=
  match op with
  | .eql => some (x == y)
  | .neq => some (x != y)
  | .lss => some (x < y)
  | .leq => some (x ≤ y)
  | .gtr => some (x > y)
  | .geq => some (x ≥ y)
  | _ => none

def binI (k k' : IntKind) (a b : Int) (op : BinOp) : PV := match op with
  | .add => cond (k == k') ([], .v (.int k) (k.wrap (a + b))) bad
  | .sub => cond (k == k') ([], .v (.int k) (k.wrap (a - b))) bad
  | .mul => cond (k == k') ([], .v (.int k) (k.wrap (a * b))) bad
  | .quo => cond (k == k') ([b ≠ 0], .v (.int k) (k.wrap (a.tdiv b))) bad
  | .rem => cond (k == k') ([b ≠ 0], .v (.int k) (a.tmod b)) bad
  | .and => cond (k == k') ([], .v (.int k) (k.wrap (BitVec.ofInt k.bits a &&& BitVec.ofInt k.bits b).toNat)) bad
  | .or => cond (k == k') ([], .v (.int k) (k.wrap (BitVec.ofInt k.bits a ||| BitVec.ofInt k.bits b).toNat)) bad
  | .xor => cond (k == k') ([], .v (.int k) (k.wrap (BitVec.ofInt k.bits a ^^^ BitVec.ofInt k.bits b).toNat)) bad
  | .andNot => cond (k == k') ([], .v (.int k) (k.wrap (BitVec.ofInt k.bits a &&& ~~~BitVec.ofInt k.bits b).toNat)) bad
  | .shl => ([0 ≤ b], .v (.int k) (k.wrap (a * 2 ^ (min b.toNat k.bits))))
  | .shr => ([0 ≤ b], .v (.int k) (a.fdiv (2 ^ (min b.toNat k.bits))))
  | op => match cmpD op a b with | some r => cond (k == k') ([], .v .bool r) bad | none => bad

def binD (t : TypeId) (op : BinOp) : AV → AV → PV
  | .v (.int k) a, .v (.int k') b => binI k k' a b op
  | .v .bool a, .v .bool b => match op with
    | .eql => match descT C t with | .bool => ([], .v .bool (a == b)) | _ => bad
    | .neq => match descT C t with | .bool => ([], .v .bool (!(a == b))) | _ => bad
    | _ => bad
  | .v .str a, .v .str b => match op with
    | .add => ([((a.size + b.size : Nat) : Int) ≤ 9223372036854775807], .v .str (a ++ b))
    | .eql => ([], .v .bool (a.toList == b.toList))
    | .neq => ([], .v .bool (!(a.toList == b.toList)))
    | .lss => ([], .v .bool (Op.bytesLess a.toList b.toList))
    | _ => bad
  | _, _ => bad

def pickD (c a b : AV) : PV := match c with
  | .v .bool t => match a, b with
    | .v τ x, .v σ y => if h : σ = τ then ([], .v τ (cond t x (h ▸ y))) else ([], cond t (.v τ x) (.v σ y))
    | p, q => ([], cond t p q)
  | _ => bad

def fieldAddrD (s : TypeId) (x : AV) (f : Nat) : PV := match descT C s with
  | .struct fs => match fs.toList[f]? with
    | some fd => cond (Nat.beq (sizeT C fd.type) 0) bad (match x with
      | .v .ref (.ptr b p) => ([], .v .ref (.ptr b (p ++ [.fld f fd.offset])))
      | .v (.ptr τ) y => match getK τ y f fd.offset with | .v σ z => ([], .v (.ptr σ) z) | _ => bad
      | _ => bad)
    | none => bad
  | _ => bad

def fieldD (s : TypeId) (x : AV) (f : Nat) : PV := match descT C s with
  | .struct fs => match fs.toList[f]?, x with
    | some fd, .v τ y => layPV C fd.type ([], getK τ y f fd.offset)
    | _, _ => bad
  | _ => bad

def indexAddrD (H : List HObj) (t : TypeId) (x i : AV) : PV := match descT C t, x, intD i with
  | .slice e, .v (.sl τ) xs, some n => cond (Nat.beq (sizeT C e) τ.size && !Nat.beq τ.size 0) ([0 ≤ n, n < (xs.length : Int)], .v (.ptr τ) (xs.getD n.toNat τ.dflt)) bad
  | .slice e, .v .ref (.sl b off len), some n => match H[b]? with
    | some (.row τ _ _) => cond (Nat.beq (sizeT C e) τ.size && !Nat.beq τ.size 0) ([0 ≤ n, n < (len : Int)], .v .ref (.ptr b [.idx (addOff off n.toNat) τ.size])) bad
    | _ => bad
  | .array l e, .v .ref (.ptr b p), some n => cond (Nat.beq (sizeT C e) 0) bad ([0 ≤ n, n < (l : Int)], .v .ref (.ptr b (p ++ [.idx n.toNat (sizeT C e)])))
  | .array l e, .v (.ptr (.arr m τ)) xs, some n => cond (Nat.beq (sizeT C e) τ.size && Nat.beq l m && !Nat.beq τ.size 0) ([0 ≤ n, n < (l : Int)], .v (.ptr τ) (xs.getD n.toNat τ.dflt)) bad
  | _, _, _ => bad

def indexD (t : TypeId) (x i : AV) : PV := match descT C t, x, intD i with
  | .string, .v .str s, some n => ([0 ≤ n, n < (s.size : Int)], .v (.int .u8) (byteAt s n.toNat))
  | .array l e, .v (.arr m τ) xs, some n => cond (lay C e τ && Nat.beq l m) ([0 ≤ n, n < (l : Int)], .v τ (xs.getD n.toNat τ.dflt)) bad
  | _, _, _ => bad

def loadD (H : List HObj) (t : TypeId) : AV → PV
  | .v .ref (.ptr b p) => match H[b]? with | some o => layPV C t (getH p o) | none => bad
  | .v (.ptr τ) x => layPV C t ([], .v τ x)
  | _ => bad

def lenD (t : TypeId) (x : AV) : PV := match descT C t, x with
  | .string, .v .str s => ([], .v (.int .i64) (s.size : Int))
  | .slice _, .v .nl _ => ([], .v (.int .i64) (0 : Int))
  | .slice _, .v (.sl _) xs => ([], .v (.int .i64) (xs.length : Int))
  | .slice _, .v .ref (.sl _ _ len) => ([], .v (.int .i64) (len : Int))
  | _, _ => bad

/-- Bounds that are told, or left out. -/
def boundD : Option AV → Option (Option Int)
  | none => some none
  | some (.v (.int _) n) => some (some n)
  | _ => none

def sliceD (H : List HObj) (t : TypeId) (x : AV) (lo hi : Option AV) : PV := match boundD lo, boundD hi with
  | some lo, some hi => match descT C t, x with
    | .string, .v .str s => match lo, hi with
      | none, none => ([], .v .str (s.extract 0 s.size))
      | none, some h => ([0 ≤ h, h ≤ (s.size : Int)], .v .str (s.extract 0 h.toNat))
      | some l, none => ([0 ≤ l, l ≤ (s.size : Int)], .v .str (s.extract l.toNat s.size))
      | some l, some h => ([0 ≤ l, l ≤ h, h ≤ (s.size : Int)], .v .str (s.extract l.toNat h.toNat))
    | .slice e, .v (.sl τ) xs => cond (Nat.beq (sizeT C e) τ.size && !Nat.beq τ.size 0) (match lo, hi with
      | none, none => ([], .v (.sl τ) xs)
      | none, some h => ([0 ≤ h, h ≤ (xs.length : Int)], .v (.sl τ) (xs.take h.toNat))
      | some l, none => ([0 ≤ l, l ≤ (xs.length : Int)], .v (.sl τ) (xs.drop l.toNat))
      | some l, some h => ([0 ≤ l, l ≤ h, h ≤ (xs.length : Int)], .v (.sl τ) ((xs.take h.toNat).drop l.toNat))) bad
    | .slice e, .v .ref (.sl b off len) => match H[b]? with
      | some (.row τ _ _) => cond (Nat.beq (sizeT C e) τ.size && !Nat.beq τ.size 0) (match lo, hi with
        | none, none => ([], .v .ref (.sl b off len))
        | none, some h => ([0 ≤ h, h ≤ (len : Int)], .v .ref (.sl b off h.toNat))
        | some l, none => ([0 ≤ l, l ≤ (len : Int)], .v .ref (.sl b (addOff off l.toNat) (len - l.toNat)))
        | some l, some h => ([0 ≤ l, l ≤ h, h ≤ (len : Int)], .v .ref (.sl b (addOff off l.toNat) (h.toNat - l.toNat)))) bad
      | _ => bad
    | _, _ => bad
  | _, _ => bad

/-- The parts of a struct, the rest of them zero. -/
def buildK : Ty → Nat → List (Nat × AV) → Option SV
  | .unit, _, _ => some ⟨.unit, ()⟩
  | .pair a b, k, ps => match buildK b (k + 1) ps with
    | some ⟨b', y⟩ => match seek ps k with
      | some (.v a' x) => cond (same a a') (some ⟨.pair a' b', (x, y)⟩) none
      | some _ => none
      | none => some ⟨.pair a b', (a.dflt, y)⟩
    | none => none
  | _, _, _ => none
/-- As many fields as a struct has. -/
def Ty.count : Ty → Nat
  | .pair _ b => b.count + 1
  | _ => 0

/-- The fields lie as the parts do. -/
def fieldsOK : Ty → Nat → List Field → Bool
  | .unit, _, [] => true
  | .pair a b, off, f :: fs => Nat.beq f.offset off && Nat.beq (sizeT C f.type) a.size && (match seek C.ti f.type with | some _ => true | none => false) && fieldsOK b (off + a.size) fs
  | _, _, _ => false
/-- Each part once. -/
def rising : Nat → List (Nat × AV) → Bool
  | _, [] => true
  | k, p :: r => Nat.ble k p.1 && rising (p.1 + 1) r

/-- Each part once, in any order. -/
def apartD : List (Nat × AV) → Bool
  | [] => true
  | p :: r => (r.all fun q => !Nat.beq q.1 p.1) && apartD r

/-- The elements of a literal, in order. -/
def buildL (τ : Ty) : Nat → List (Nat × AV) → Option (List τ.D)
  | _, [] => some []
  | k, (i, .v σ x) :: r => match buildL τ (k + 1) r with
    | some l => if h : σ = τ then cond (Nat.beq i k) (some ((h ▸ x) :: l)) none else none
    | none => none
  | _, _ => none

def buildD (z : Ty) (fs : List Field) (ps : List (Nat × AV)) : Eff :=
  cond (fieldsOK C z 0 fs && apartD ps && ps.all fun p => Nat.blt p.1 z.count) (match buildK z 0 ps with | some ⟨τ, x⟩ => .val ([], .v τ x) | none => .bad) .bad

def eqZero (τ : Ty) : Bool := match τ with
  | .unit => true
  | _ => false

def zeroOf (t : TypeId) : Option Ty := match seek C.ti t with | some i => i.zero | none => none
def buildSliceD (e : TypeId) (n : Nat) (ps : List (Nat × AV)) : Eff := match ps with
  | (i, .v τ x) :: r => match buildL τ 0 ((i, .v τ x) :: r) with
    | some l => cond (Nat.beq n ((i, AV.v τ x) :: r).length && lay C e τ && Nat.ble (n * τ.size) 16777216 && !Nat.beq τ.size 0 && (match zeroOf C e with | some _ => true | none => false)) (.new [] (fun id => .v .ref (.sl id 0 n)) (.row τ l e)) .bad
    | none => .bad
  | _ => .bad


/-- A type that is known, and no interface. -/
def knownC (t : TypeId) : Bool := match seek C.ti t with | some i => (match i.desc with | .interface _ => false | _ => true) | none => false
def knownT (t : TypeId) : Bool := match seek C.ti t with | some _ => true | none => false

def convertD (src dst : TypeId) (x : AV) : Eff := match knownT C src with
  | false => .bad
  | true => match descT C dst, x with
    | .int k, .v (.int _) n => .val ([], .v (.int k) (k.wrap n))
    | .string, .v .str s => .val ([], .v .str s)
    | .string, .v (.sl (.int .u8)) xs => match descT C src with | .slice e => (match descT C e with | .int .u8 => .val ([], .v .str (strOf xs)) | _ => .bad) | _ => .bad
    | .string, .v .nl _ => match descT C src with | .slice e => (match descT C e with | .int .u8 => .val ([], .v .str ByteArray.empty) | _ => .bad) | _ => .bad
    | .slice e, .v .str s => match descT C e with | .int .u8 => .imm [] (.v (.sl (.int .u8)) (bytesOf s)) | _ => .bad
    | _, _ => .bad

def roomOf (bytes : Nat) : Nat := 70368744177664 / bytes

/-- What is appended: rows of cells. -/
def moreD (H : List HObj) (τ : Ty) : AV → Option (List τ.D)
  | .v (.sl σ) xs => if h : σ = τ then some (h ▸ xs) else none
  | .v .nl _ => some []
  | .v .str s => if h : Ty.int .u8 = τ then some ((h ▸ (bytesOf s : List (Ty.int .u8).D) : List τ.D)) else none
  | .v .ref (.sl b off len) => match H[b]? with
    | some (.row σ xs _) => if h : σ = τ then some (h ▸ ((xs.drop off).take len)) else none
    | _ => none
  | _ => none

def moreC (H : List HObj) : AV → List Prop
  | .v .ref (.sl b off len) => match H[b]? with
    | some (.row _ xs _) => [off + len ≤ xs.length]
    | _ => [False]
  | _ => []

def tyOfMore (H : List HObj) : AV → Option Ty
  | .v (.sl σ) _ => some σ
  | .v .str _ => some (.int .u8)
  | .v .ref (.sl b _ _) => match H[b]? with
    | some (.row σ _ _) => some σ
    | _ => none
  | _ => none

/-- Is it of the type that is told? -/
def kindOK (t : TypeId) : AV → Bool
  | .v .str _ => match descT C t with | .string => true | _ => false
  | _ => match descT C t with | .slice _ => true | _ => false

def hasZero (t : TypeId) : Bool := match zeroOf C t with | some _ => true | none => false

def appendD (H : List HObj) (sT xT : TypeId) (s x : AV) : Eff := match descT C sT with
  | .slice e => match s with
    | .v .ref (.sl b off len) => match H[b]? with
      | some (.row τ xs t) => match moreD H τ x with
        | some ys => cond (Nat.beq off 0 && Nat.beq e t && lay C e τ && !Nat.beq τ.size 0 && !τ.refs && kindOK C xT x && hasZero C e) (.app ((len ≤ xs.length) :: (len + ys.length ≤ roomOf (bytesT C e)) :: moreC H x) b (.row τ (xs.take len ++ ys) t) (len + ys.length)) .bad
        | none => .bad
      | _ => .bad
    | .v .nl _ => match tyOfMore H x with
      | some τ => match moreD H τ x with
        | some ys => cond (lay C e τ && !Nat.beq τ.size 0 && !τ.refs && kindOK C xT x && hasZero C e) (.new ((ys.length ≤ roomOf (bytesT C e)) :: moreC H x) (fun id => .v .ref (.sl id 0 ys.length)) (.row τ ys e)) .bad
        | none => .bad
      | none => .bad
    | _ => .bad
  | _ => .bad

def callD (ev : Operand → AV) (H : List HObj) (c : Call) : Eff := match c.callee with
  | .builtin .len => match (c.args.toList.map ev), c.argTypes.toList with | [x], [t] => .val (lenD C t x) | _, _ => .bad
  | .builtin .append => match (c.args.toList.map ev), c.argTypes.toList with | [s, x], [t, tx] => appendD C H t tx s x | _, _ => .bad
  | .builtin .max => match (c.args.toList.map ev) with | [.v (.int k) a, .v (.int k') b] => .val ([], .v (.int k) (cond (decide (b > a)) b a)) | _ => .bad
  | .builtin .min => match (c.args.toList.map ev) with | [.v (.int k) a, .v (.int k') b] => .val ([], .v (.int k) (cond (decide (b < a)) b a)) | _ => .bad
  | .value f => match ev f with
    | .v .ref (.fn g caps) => cond (C.can g) (.call g (c.args.toList.map ev ++ caps.map fun b => .v .ref (.ptr b []))) .bad
    | _ => .bad
  | .invoke r name => match ev r with
    | .v .tag t => match C.meth t name with
      | some f => .call f (.v .unit () :: c.args.toList.map ev)
      | none => .bad
    | _ => .bad
  | _ => .bad

def makeMapD (t : TypeId) (r : Option AV) : Eff := match descT C t with
  | .map k e => match descT C k, zeroOf C e with
    | .int q, some τ => match r with
      | none => .new [] (fun id => .v .ref (.mp id)) (.map (.int q) τ [])
      | some (.v (.int _) _) => .new [] (fun id => .v .ref (.mp id)) (.map (.int q) τ [])
      | _ => .bad
    | _, _ => .bad
  | _ => .bad
def lookupD (H : List HObj) (t : TypeId) (x i : AV) (ok : Bool) : Eff := match descT C t, x, i with
  | .map k e, .v .ref (.mp b), .v (.int q) n => match H[b]?, descT C k, zeroOf C e with
    | some (.map (.int q') τ es), .int q'', some τ' => cond (q == q' && q == q'') (if τ' = τ then cond ok (.val ([], .tup [⟨τ, lookA τ.dflt es n⟩, ⟨.bool, hasA es n⟩])) (.val ([], .v τ (lookA τ.dflt es n))) else .bad) .bad
    | _, _, _ => .bad
  | _, _, _ => .bad
def mapUpdateD (H : List HObj) (t : TypeId) (x i y : AV) : Eff := match descT C t, x, i, y with
  | .map k e, .v .ref (.mp b), .v (.int q) n, .v σ z => match H[b]?, descT C k with
    | some (.map (.int q') τ es), .int q'' => cond (q == q' && q == q'') (if h : σ = τ then .set [] b (.map (.int q') τ (setA es n (h ▸ z))) else .bad) .bad
    | _, _ => .bad
  | _, _, _, _ => .bad

def capOf : AV → Option Nat
  | .v .ref (.ptr b []) => some b
  | _ => none
def opEff (ev : Operand → AV) (H : List HObj) : Op → Eff
  | .move x | .assign x => .val ([], ev x)
  | .pick c a b => .val (pickD (ev c) (ev a) (ev b))
  | .alloc e => match zeroOf C e with | some τ => .new [] (fun id => .v .ref (.ptr id [])) (.var τ τ.dflt e) | none => .bad
  | .box e x => match ev x with | .v τ y => .new [] (fun id => .v .ref (.ptr id [])) (.var τ y e) | _ => .bad
  | .build t ps => match zeroOf C t, descT C t with
    | some z, .struct fs => buildD C z fs.toList (ps.toList.map fun p => (p.1, ev p.2))
    | _, _ => .bad
  | .buildSlice t n ps => match descT C t with
    | .slice e => buildSliceD C e n (ps.toList.map fun p => (p.1, ev p.2))
    | _ => .bad
  | .load t x => .val (loadD C H t (ev x))
  | .store t x y => match ev x, ev y with
    | .v .ref (.ptr b p), .v σ z => match H[b]? with
      | some o => match setH p σ z o with | (c, some o') => cond (lay C t σ) (.set c b o') .bad | (_, none) => .bad
      | none => .bad
    | _, _ => .bad
  | .nilCheck x => match ev x with
    | .v .ref (.ptr b p) => .val ([], .v .ref (.ptr b p))
    | .v (.ptr τ) y => .val ([], .v (.ptr τ) y)
    | _ => .bad
  | .binOp op xt x y _ => .val (binD C xt op (ev x) (ev y))
  | .unOp .not _ x => match ev x with | .v .bool b => .val ([], .v .bool (!b)) | _ => .bad
  | .unOp .neg _ x => match ev x with | .v (.int k) n => .val ([], .v (.int k) (k.wrap (0 - n))) | _ => .bad
  | .unOp .xor _ x => match ev x with | .v (.int k) n => .val ([], .v (.int k) (k.wrap (BitVec.ofInt k.bits (if k.signed then -1 else k.max) ^^^ BitVec.ofInt k.bits n).toNat)) | _ => .bad
  | .convert s d x => convertD C s d (ev x)
  | .makeInterface t x => cond (knownC C t) (match ev x with | .v .unit _ => .val ([], .v .tag t) | .v (.pair .unit .unit) _ => .val ([], .v .tag t) | .v τ y => .val ([], .v (.ifc t τ) y) | _ => .bad) .bad
  | .makeFunc (.func f) first caps => cond (Nat.beq first.size 0) (match (caps.toList.map ev).mapM capOf with | some l => .val ([], .v .ref (.fn f l)) | none => .bad) .bad
  | .makeSlice t l c => match descT C t, intD (ev l), intD (ev c) with
    | .slice e, some n, some m => match zeroOf C e with
      | some τ => cond (!lay C e τ) .bad (.new [n = m, 0 ≤ n, n ≤ (roomOf (bytesT C e) : Int)] (fun id => .v .ref (.sl id 0 n.toNat)) (.row τ (List.replicate n.toNat τ.dflt) e))
      | none => .bad
    | _, _, _ => .bad
  | .slice t x lo hi none => .val (sliceD C H t (ev x) (lo.map ev) (hi.map ev))
  | .fieldAddr s x f => .val (fieldAddrD C s (ev x) f)
  | .field s x f => .val (fieldD C s (ev x) f)
  | .indexAddr t x i => .val (indexAddrD C H t (ev x) (ev i))
  | .index t x i => .val (indexD C t (ev x) (ev i))
  | .typeAssert x _ t true => match ev x with
    | .v .tag u => match zeroOf C t with | some .unit => cond (knownC C t) (.val ([], .tup [⟨.unit, ()⟩, ⟨.bool, Nat.beq u t⟩])) .bad | _ => .bad
    | _ => .bad
  | .extract x k => match ev x with
    | .tup l => match l[k]? with | some s => .val ([], .v s.1 s.2) | none => .bad
    | _ => .bad
  | .call c => callD C ev H c
  | .makeMap t r => makeMapD C t (r.map ev)
  | .lookup t x i ok => lookupD C H t (ev x) (ev i) ok
  | .mapUpdate t x i y => mapUpdateD C H t (ev x) (ev i) (ev y)
  | _ => .bad

def coE (τ' τ : Ty) (x : τ.D) : List Prop × Option τ'.D := if h : τ = τ' then cond τ.refs ([], none) ([], some (h ▸ x)) else ([], none)
/-- Plain data of that kind: slices and pointers of one's own are lent. -/
def coT (H : List HObj) : (τ' : Ty) → (τ : Ty) → τ.D → List Prop × Option τ'.D
  | .sl t, τ, x => match τ, x with
    | .sl σ, xs => if h : σ = t then ([], some (h ▸ xs)) else ([], none)
    | .nl, _ => cond t.refs ([], none) ([], some [])
    | .ref, .sl b off len => match H[b]? with
      | some (.row σ xs _) => if h : σ = t then cond t.refs ([], none) ([off + len ≤ xs.length], some (h ▸ (xs.drop off).take len)) else ([], none)
      | _ => ([], none)
    | _, _ => ([], none)
  | .ptr t, τ, x => match τ, x with
    | .ptr σ, y => if h : σ = t then ([], some (h ▸ y)) else ([], none)
    | .ref, .ptr b p => match H[b]? with
      | some o => match getH p o with
        | (c, .v σ y) => match coT H t σ y with
          | (c', some z) => cond t.refs ([], none) (c ++ c', some z)
          | (c', none) => (c', none)
        | (c, _) => (c, none)
      | none => ([], none)
    | _, _ => ([], none)
  | .pair a b, τ, x => match τ, x with
    | .pair a' b', (y, z) => match coT H a a' y, coT H b b' z with
      | (c, some y'), (c', some z') => (c ++ c', some (y', z'))
      | (c, _), (c', _) => (c ++ c', none)
    | _, _ => ([], none)
  | τ', τ, x => coE τ' τ x
/-- The same, at once where it is of that kind already. -/
def coU (H : List HObj) (t τ : Ty) (x : τ.D) : List Prop × Option t.D := if h : τ = t then cond t.refs (coT H t τ x) ([], some (h ▸ x)) else coT H t τ x
def coArgs (H : List HObj) : List Ty → List AV → List Prop × Option (List AV)
  | [], [] => ([], some [])
  | t :: ts, .v τ x :: r => match coU H t τ x, coArgs H ts r with
    | (c, some y), (c', some l) => (c ++ c', some (.v t y :: l))
    | (c, _), (c', _) => (c ++ c', none)
  | _, _ => ([], none)
def noIds : List Nat → Bool
  | [] => true
  | _ => false
/-- Data that lie in no memory. -/
def Ty.plain : Ty → Bool
  | .pair a b => a.plain && b.plain
  | .arr _ t => t.plain
  | .sl _ | .ptr _ | .ref | .ifc _ _ => false
  | _ => true
def AV.plain : AV → Bool
  | .v τ _ => τ.plain
  | .tup l => l.all fun s => s.1.plain
  | .dead => true

def putT (T : List AV) (d : Option Nat) (v : AV) : List AV := match d with | none => T | some d => T.set d v
def All : List Prop → Prop → Prop
  | [], q => q
  | p :: ps, q => p ∧ All ps q

def runEff (callF : FuncId → CF) (d : Option Nat) (e : Eff) (s : St) (κ : St → Prop) : Prop := match e with
  | .val p => All p.1 (κ ⟨putT s.T d p.2, s.H⟩)
  | .imm c v => All c (κ ⟨putT s.T d v, s.H⟩)
  | .new c v o => All c (κ ⟨putT s.T d (v s.H.length), s.H ++ [o]⟩)
  | .set c b o => All c (κ ⟨putT s.T d (.tup []), s.H.set b o⟩)
  | .app c b o n => All c (κ ⟨putT (s.T.map (AV.kill (Nat.beq b))) d (.v .ref (.sl b 0 n)), (s.H.map (HObj.kill (Nat.beq b))).set b o⟩)
  | .call f args => match C.pur f with
    | some (ts, F) => match coArgs s.H ts args with
      | (c, some xs) => cond ((args.all fun a => noIds a.ids) || (F xs).2.plain) (All c (All (F xs).1 (κ ⟨putT s.T d (F xs).2, s.H⟩))) False
      | (_, none) => False
    | none =>
      let l := reach s.H 4 (addTo [] (args.flatMap AV.ids))
      let k := l.length
      let g : Nat → Nat := fun b => place b l
      cond (shut s.H l && args.all fun a => a.ids.all fun b => memb b l) (callF f (args.map (AV.ren g)) (l.map fun b => (s.H.getD b .dead).ren g) fun r Hs =>
        let back : Nat → Nat := fun i => cond (Nat.blt i k) (l.getD i 0) (s.H.length + (i - k))
        let rows : Nat → Bool := fun b => memb b l && rowAt s.H b
        let r' := r.ren back
        let H1 := setAll (s.H.map (HObj.kill rows)) l ((Hs.take k).map (HObj.ren back))
        let lone : Bool := (r.ids.all fun b => Nat.blt b k) && (Hs.take k).all fun o => o.ids.all fun b => Nat.blt b k
        κ ⟨putT (s.T.map (AV.kill rows)) d r', cond lone H1 (H1 ++ (Hs.drop k).map (HObj.ren back))⟩) False
  | .bad => False

/-- What a slot holds once a row is handed on by value. -/
def thaw (b : Nat) (τ : Ty) (xs : List τ.D) : AV → List Prop × AV
  | .v .ref (.sl c off len) => cond (Nat.beq b c) ([off + len ≤ xs.length], .v (.sl τ) ((xs.drop off).take len)) ([], .v .ref (.sl c off len))
  | x => ([], x.kill (Nat.beq b))
def thawC (b : Nat) (τ : Ty) (xs : List τ.D) : List AV → List Prop
  | [] => []
  | x :: r => (thaw b τ xs x).1 ++ thawC b τ xs r
/-- A row that nobody writes any more is handed on by value. -/
def frzS (d : Nat) (κ : St → Prop) (s : St) : Prop := match s.T.getD d .dead with
  | .v .ref (.sl b _ _) => match s.H[b]? with
    | some (.row τ xs t) => cond (τ.refs || Nat.beq τ.size 0) False (All (thawC b τ xs s.T) (κ ⟨s.T.map (fun x => (thaw b τ xs x).2), (s.H.map (HObj.kill (Nat.beq b))).set b .dead⟩))
    | _ => False
  | _ => κ s

def ghost1 : Gst → St → Option St
  | .own k τ t, s => match s.T.getD k .dead with
    | .v .nl _ => some ⟨s.T.set k (.v .ref (.sl s.H.length 0 0)), s.H ++ [.row τ [] t]⟩
    | _ => none
  | .fld d k off τ t, s => match s.T.getD d .dead with
    | .v σ x => match getK σ x k off with
      | .v .nl _ => match setK σ x k off .ref (.sl s.H.length 0 0) with
        | some ⟨σ', x'⟩ => some ⟨s.T.set d (.v σ' x'), s.H ++ [.row τ [] t]⟩
        | none => none
      | _ => none
    | _ => none
def ghosts : List Gst → St → Option St
  | [], s => some s
  | g :: r, s => match ghost1 g s with | some s' => ghosts r s' | none => none
def frzK (d : Option Nat) (κ : St → Prop) (s : St) : Prop := match d with
  | some d => match C.owns d with
    | some (τ, t) => (match ghosts [.own d τ t] s with | some s' => κ s' | none => κ s)
    | none => match C.flds d with
      | [] => cond (memb d C.frz) (frzS d κ s) (κ s)
      | g :: r => (match ghosts (g :: r) s with | some s' => κ s' | none => κ s)
  | none => κ s

def guardOf (ops : Array Oper) (j : Nat) : Option Nat := (ops.toList[j]?).bind (·.dst)

def runOps (callF : FuncId → CF) (ops : Array Oper) (κ : St → Prop) : List Oper → St → Prop
  | [], s => κ s
  | o :: r, s => match o.guard with
    | none => runEff C callF o.dst (opEff C (evT s.T) s.H o.op) s (frzK C o.dst (runOps callF ops κ r))
    | some (j, want) => match guardOf ops j with
      | none => False
      | some g => match s.T.getD g .dead with
        | .v .bool b =>
          let on (t : Bool) : Prop :=
            let s1 : St := ⟨s.T.set g (.v .bool t), s.H⟩
            cond (t == want) (runEff C callF o.dst (opEff C (evT s1.T) s1.H o.op) s1 (frzK C o.dst (runOps callF ops κ r))) (runOps callF ops κ r ⟨putT s1.T o.dst (.tup []), s1.H⟩)
          cond b (on true) (on false)
        | .tup [] => runOps callF ops κ r ⟨putT s.T o.dst (.tup []), s.H⟩
        | _ => False


def firstRegion : Code → Nat
  | .region id _ _ => id
  | .seq a _ => firstRegion a
  | .block _ c => firstRegion c
  | .loop c => firstRegion c
  | _ => 0

/-- At a loop's head: the slots that live on, the blocks that were there. -/
def maskT (p : Nat → Bool) (keep : List Nat) : Nat → List AV → List AV
  | _, [] => []
  | i, x :: r => cond (memb i keep) (x.kill p) .dead :: maskT p keep (i + 1) r
def scrub (keep : List Nat) (n : Nat) (s : St) : St := ⟨maskT (Nat.ble n) keep 0 s.T, (s.H.take n).map (HObj.kill (Nat.ble n))⟩

/-! ### Statements whose order Go leaves open -/
def masks (ops : Array Oper) : List Nat := (Region.before ops).toList
def bitAt (ms : List Nat) (i j : Nat) : Bool := (ms.getD i 0).testBit j
/-- Each bit is an edge, or an edge's bit; and edges lead back. -/
def maskOK (ops : Array Oper) (ms : List Nat) : Bool :=
  (List.range ops.size).all fun i => match ops.toList[i]? with
    | some o => (o.after.all fun e => !Region.binds .any e || Nat.blt e.on i) &&
        (List.range ops.size).all fun j => !bitAt ms i j || o.after.any fun e => Region.binds .any e && (Nat.beq e.on j || bitAt ms e.on j)
    | none => true
def namesOf (ops : Array Oper) (o : Oper) : List Nat :=
  o.dst.toList ++ ((o.op.operands.toList.filterMap fun | .tmp t => some t | _ => none) ++ (match o.guard with | some (j, _) => (guardOf ops j).toList | none => []))
def clash (ops : Array Oper) (x y : Oper) : Bool :=
  (match x.dst with | some d => memb d (namesOf ops y) | none => false) || (match y.dst with | some d => memb d (namesOf ops x) | none => false)
def namesOK (ops : Array Oper) (ms : List Nat) : Bool :=
  (List.range ops.size).all fun j => (List.range j).all fun i => match ops.toList[i]?, ops.toList[j]? with
    | some x, some y => !clash ops x y || bitAt ms j i
    | _, _ => true
def drawCheck (ops : Array Oper) : Bool := maskOK ops (masks ops) && namesOK ops (masks ops) && Region.noSelect ops
/-- A move that may as well be done first of all. -/
def lazyAt (ops : Array Oper) (i : Nat) : Bool := match ops.toList[i]? with
  | some o => (match o.op with | .move _ => true | _ => false) && (match o.guard with | none => true | some _ => false) && Nat.beq o.after.size 0 &&
      (List.range ops.size).all fun j => Nat.beq i j || (match ops.toList[j]? with
        | some p => (p.after.any fun e => Region.binds .any e && Nat.beq e.on i) || o.apart ops p
        | none => true)
  | none => false
def fullFrom (ops : Array Oper) (ms : List Nat) (n i : Nat) : Bool := ((List.range n).drop i).all fun k => (List.range k).all fun j => bitAt ms k j || (Nat.blt j i && lazyAt ops j)

def topIds : AV → List Nat
  | .v .ref (.ptr b _) => [b]
  | .v .ref (.sl b _ _) => [b]
  | .v .ref (.mp b) => [b]
  | _ => []
/-- The blocks that an operation looks into. -/
def readsOf (ev : Operand → AV) : Op → List Nat
  | .load _ x => topIds (ev x)
  | .indexAddr _ x _ => topIds (ev x)
  | .slice _ x _ _ _ => topIds (ev x)
  | .store _ x _ => topIds (ev x)
  | .lookup _ x _ _ => topIds (ev x)
  | .mapUpdate _ x _ _ => topIds (ev x)
  | .call c => match c.callee with
    | .builtin .append => c.args.toList.flatMap fun x => topIds (ev x)
    | _ => []
  | _ => []
abbrev Log := List (Nat × List Nat × Option Nat)
/-- What is looked into lies ready: blocks that were made here, and stores into it, are ahead. -/
def okRead (ms : List Nat) (base i : Nat) (L : Log) (rs : List Nat) : Bool :=
  (rs.all fun b => Nat.blt b base || bitAt ms i (b - base)) && L.all fun e => match e.2.2 with
    | some b => !memb b rs || bitAt ms i e.1
    | none => true
/-- Whoever looked into it has done so. -/
def okWrite (ms : List Nat) (i : Nat) (L : Log) (b : Nat) : Bool := L.all fun e => !memb b e.2.1 || bitAt ms i e.1

def runD (callF : FuncId → CF) (ops : Array Oper) (ms : List Nat) (base : Nat) (κ : St → Prop) : Nat → Log → List Oper → St → Prop
  | _, _, [], s => κ s
  | i, L, o :: r, s =>
    let step (s : St) : Prop := match opEff C (evT s.T) s.H o.op with
      | .val p => cond (okRead ms base i L (readsOf (evT s.T) o.op)) (All p.1 (runD callF ops ms base κ (i + 1) ((i, readsOf (evT s.T) o.op, none) :: L) r ⟨putT s.T o.dst p.2, s.H⟩)) False
      | .imm c v => cond (okRead ms base i L (readsOf (evT s.T) o.op)) (All c (runD callF ops ms base κ (i + 1) ((i, readsOf (evT s.T) o.op, none) :: L) r ⟨putT s.T o.dst v, s.H⟩)) False
      | .new c v ob => cond (okRead ms base i L (readsOf (evT s.T) o.op)) (All c (runD callF ops ms base κ (i + 1) ((i, readsOf (evT s.T) o.op, none) :: L) r ⟨putT s.T o.dst (v (base + i)), s.H.set (base + i) ob⟩)) False
      | .set c b o' => cond (okRead ms base i L (readsOf (evT s.T) o.op) && okWrite ms i L b && memb b (readsOf (evT s.T) o.op)) (All c (runD callF ops ms base κ (i + 1) ((i, readsOf (evT s.T) o.op, some b) :: L) r ⟨putT s.T o.dst (.tup []), s.H.set b o'⟩)) False
      | .call f args => match C.pur f with
        | some (ts, F) => cond ((args.all fun a => noIds a.ids) && okRead ms base i L (readsOf (evT s.T) o.op)) (match coArgs [] ts args with
          | (c, some xs) => All c (All (F xs).1 (runD callF ops ms base κ (i + 1) ((i, readsOf (evT s.T) o.op, none) :: L) r ⟨putT s.T o.dst (F xs).2, s.H⟩))
          | (_, none) => False) (cond (fullFrom ops ms ops.size i) (runOps C callF ops κ (o :: r) s) False)
        | none => cond (fullFrom ops ms ops.size i) (runOps C callF ops κ (o :: r) s) False
      | .app _ _ _ _ => cond (fullFrom ops ms ops.size i) (runOps C callF ops κ (o :: r) s) False
      | .bad => False
    let skip (s : St) : Prop := runD callF ops ms base κ (i + 1) ((i, [], none) :: L) r ⟨putT s.T o.dst (.tup []), s.H⟩
    match o.guard with
    | none => step s
    | some (j, want) => match guardOf ops j with
      | none => False
      | some g => match s.T.getD g .dead with
        | .v .bool b => cond b (let s1 : St := ⟨s.T.set g (.v .bool true), s.H⟩; cond (true == want) (step s1) (skip s1)) (let s1 : St := ⟨s.T.set g (.v .bool false), s.H⟩; cond (false == want) (step s1) (skip s1))
        | .tup [] => skip s
        | _ => False

/-- What lives on where a block is left. -/
def leave (base : Nat) (x : Option (List Nat × Nat)) (κ : St → Prop) (s : St) : Prop := match x with
  | some (keep, n) => cond (Nat.ble base n && Nat.ble n s.H.length) (κ (scrub keep n s)) False
  | none => κ s
def leaveX (base : Nat) (lims : List Nat) (x : Option (List Nat × Nat)) (κ : St → Prop) (s : St) : Prop := match x with
  | some (keep, d) => match lims[d]? with
    | some n => leave base (some (keep, n)) κ s
    | none => False
  | none => κ s

/-- One statement. -/
def regRun (callF : FuncId → CF) (id : Nat) (ops : Array Oper) (draw : Bool) (κ : St → Prop) (s : St) : Prop := match ghosts (C.gh id) s with
  | some s' => cond draw (cond (drawCheck ops) (runD C callF ops (masks ops) s'.H.length κ 0 [] ops.toList ⟨s'.T, s'.H ++ List.replicate ops.size .dead⟩) False) (runOps C callF ops κ ops.toList s')
  | none => False
/-- Behind a statement by contract. -/
def cutK (keep : List Nat) (n : Nat) (κ : St → Prop) (s : St) : Prop := cond (Nat.ble n s.H.length) (κ (scrub keep n s)) False

def exec (callF : FuncId → CF) : Code → K → St → Prop
  | .skip, k, s => k.normal s
  | .region id ops draw, k, s => leave k.base (C.gk id) (fun s => match C.cuts id with
    | some (keep, n, F) => cond (Nat.ble k.base n) (F s k.normal) False
    | none => regRun C callF id ops draw k.normal s) s
  | .seq a b, k, s => exec callF a { k with normal := exec callF b k } s
  | .cond c x y, k, s => match evT s.T c with
    | .v .bool b => cond b (exec callF x k s) (exec callF y k s)
    | _ => False
  | .block id c, k, s => exec callF c { k with exit := fun j s' => cond (Nat.beq j id) (k.normal s') (k.exit j s') } s
  | .loop c, k, s => match C.loops (firstRegion c) with
    | some (keep, L) => L k s.H.length (scrub keep s.H.length s)
    | none => False
  | .exit id, k, s => leaveX k.base k.lims (C.xk id) (k.exit id) s
  | .label _, k, s => k.normal s
  | .ret, k, s => leave k.base (C.rk.map fun x => (x.1, cond (Nat.ble x.2 s.H.length) x.2 s.H.length)) k.ret s
  | _, _, _ => False

def resD (s : St) : List ResultVar → Option (List SV)
  | [] => some []
  | .tmp t :: r => match s.T.getD t .dead, resD s r with
    | .v τ x, some l => some (⟨τ, x⟩ :: l)
    | _, _ => none
  | .cell a t :: r => match loadD C s.H t (s.T.getD a .dead), resD s r with
    | ([], .v τ x), some l => some (⟨τ, x⟩ :: l)
    | _, _ => none
def resAV : List SV → AV
  | [s] => .v s.1 s.2
  | l => .tup l

/-- A loop: so many rounds. -/
def loopN (callF : FuncId → CF) (keep : List Nat) (n : Nat) (c : Code) (k : K) : Nat → St → Prop
  | 0, _ => False
  | m + 1, s => exec C callF c { k with lims := n :: k.lims, normal := fun s' => cond (Nat.ble n s'.H.length) (loopN callF keep n c k m (scrub keep n s')) False } s
/-- What the table says of the loops holds of the code's loops. -/
def LoopsOK (callF : FuncId → CF) : Code → Prop
  | .seq a b => LoopsOK callF a ∧ LoopsOK callF b
  | .cond _ a b => LoopsOK callF a ∧ LoopsOK callF b
  | .block _ c => LoopsOK callF c
  | .loop c => (∀ keep L, C.loops (firstRegion c) = some (keep, L) → ∀ k n s, L k n s → ∃ m, loopN C callF keep n c k m s) ∧ LoopsOK callF c
  | .region id ops draw => ∀ keep n F, C.cuts id = some (keep, n, F) → ∀ κ s, F s κ → regRun C callF id ops draw (cutK keep n κ) s
  | _ => True

/-- A function's body, run on its arguments. -/
def runFn (callF : FuncId → CF) (fn : Func) (args : List AV) (H : List HObj) (κ : AV → List HObj → Prop) : Prop :=
  match fn.body with
  | some c =>
    let fin (s : St) : Prop := match resD C s fn.results.toList with | some l => κ (resAV l) s.H | none => False
    exec C callF c ⟨H.length, [], fin, fun _ _ => False, fin⟩ ⟨args ++ List.replicate (fn.ntmps - args.length) (.tup []), H⟩
  | none => False
end
end Go.Proofs.Ytdjdbjcapenjeaa.Dx

/- How the relation between abstract values and a world is kept. -/
namespace Go.Proofs.Ytdjdbjcapenjeaa.Dx
open Go Go.RowKit
set_option linter.unusedVariables false

section
variable {I : Nat → Option Obj} {ρ : Nat → Place}

theorem flats_all {α : Type} {R : α → List Value → Prop} {p : Value → Prop} (hR : ∀ x vs, R x vs → ∀ u ∈ vs, p u) : ∀ xs vs, Flats R xs vs → ∀ u ∈ vs, p u
  | [], vs, h => by simp only [Flats] at h; subst h; simp
  | x :: xs, vs, h => by
    obtain ⟨u, v, rfl, h1, h2⟩ := h
    intro q hq
    rcases List.mem_append.1 hq with hq | hq
    · exact hR _ _ h1 _ hq
    · exact flats_all hR xs v h2 _ hq

theorem refRel_one {r : Ref} {v : Value} (h : RefRel ρ r v) : v.oneCell' = true := by
  cases r with
  | dead => exact h
  | ptr b p => obtain ⟨g, c, s, _, rfl⟩ := h; rfl
  | sl b o l =>
    simp only [RefRel] at h
    split at h
    · exact h.elim
    · obtain ⟨_, _, rfl⟩ := h; rfl
    · obtain ⟨a, _, rfl, _⟩ := h; rfl
  | mp b => obtain ⟨g, c, s, _, rfl⟩ := h; rfl
  | fn f caps => obtain ⟨vs, rfl, _⟩ := h; rfl

theorem flat_one : ∀ (τ : Ty) (x : τ.D) (vs : List Value), Flat I ρ τ x vs → ∀ u ∈ vs, u.oneCell' = true
  | .int _, _, _, h => by simp only [Flat] at h; subst h; simp [Value.oneCell']
  | .bool, _, _, h => by simp only [Flat] at h; subst h; simp [Value.oneCell']
  | .str, _, _, h => by simp only [Flat] at h; subst h; simp [Value.oneCell']
  | .nl, _, _, h => by simp only [Flat] at h; subst h; simp [Value.oneCell']
  | .nilp, _, _, h => by simp only [Flat] at h; subst h; simp [Value.oneCell']
  | .nilm, _, _, h => by simp only [Flat] at h; subst h; simp [Value.oneCell']
  | .nili, _, _, h => by simp only [Flat] at h; subst h; simp [Value.oneCell']
  | .nilf, _, _, h => by simp only [Flat] at h; subst h; simp [Value.oneCell']
  | .unit, _, _, h => by simp only [Flat] at h; subst h; simp
  | .pair a b, x, vs, h => by
    obtain ⟨u, v, rfl, h1, h2⟩ := h
    intro q hq
    rcases List.mem_append.1 hq with hq | hq
    · exact flat_one a _ _ h1 _ hq
    · exact flat_one b _ _ h2 _ hq
  | .arr n t, xs, vs, h => flats_all (fun x vs h => flat_one t x vs h) xs vs h.2
  | .sl t, _, _, h => by obtain ⟨_, A, c, rfl, _⟩ := h; simp [Value.oneCell']
  | .ptr t, _, _, h => by obtain ⟨_, A, c, rfl, _⟩ := h; simp [Value.oneCell']
  | .ref, _, _, h => by obtain ⟨v, rfl, hr⟩ := h; intro q hq; rw [List.mem_singleton] at hq; subst hq; exact refRel_one hr
  | .tag, _, _, h => by simp only [Flat] at h; subst h; simp [Value.oneCell']
  | .ifc _ _, _, _, h => by obtain ⟨v, us, rfl, _⟩ := h; simp [Value.oneCell']

theorem cells_of_one {v : Value} (h : v.oneCell' = true) : v.cells = #[v] := by cases v <;> first | rfl | (simp [Value.oneCell'] at h)

/-- A value's cells are the cells that its abstract value stands for. -/
theorem val_cells {τ : Ty} {x : τ.D} {v : Value} (h : Val I ρ τ x v) : Flat I ρ τ x v.cells.toList := by
  obtain ⟨us, h1, h2⟩ := h
  split at h2
  · subst h2; simpa [Value.cells] using h1
  · subst h2
    rw [cells_of_one (flat_one τ x _ h1 v (by simp))]; exact h1

/-- And these cells make the value. -/
theorem val_of_cells {τ : Ty} {x : τ.D} {us : List Value} (h : Flat I ρ τ x us) : ∃ v, Val I ρ τ x v ∧ v.cells.toList = us ∧ (if τ.agg then v = .agg us.toArray else us = [v]) := by
  by_cases ha : τ.agg = true
  · exact ⟨.agg us.toArray, ⟨us, h, by simp [ha]⟩, by simp [Value.cells], by simp [ha]⟩
  · have hl := flat_length τ x us h
    have hs : τ.size = 1 := by cases τ <;> first | rfl | (simp [Ty.agg] at ha)
    rw [hs] at hl
    obtain ⟨v, rfl⟩ := List.length_eq_one_iff.1 hl
    refine ⟨v, ⟨[v], h, by simp [ha]⟩, ?_, by simp [ha]⟩
    rw [cells_of_one (flat_one τ x _ h v (by simp))]

theorem val_agg {τ : Ty} {x : τ.D} {v : Value} (h : Val I ρ τ x v) (ha : τ.agg = true) : ∃ us, v = .agg us.toArray ∧ Flat I ρ τ x us := by
  obtain ⟨us, h1, h2⟩ := h
  simp only [ha, if_true] at h2
  exact ⟨us, h2, h1⟩
theorem val_one {τ : Ty} {x : τ.D} {v : Value} (h : Val I ρ τ x v) (ha : τ.agg = false) : Flat I ρ τ x [v] := by
  obtain ⟨us, h1, h2⟩ := h
  simp only [ha, Bool.false_eq_true, if_false] at h2
  subst h2; exact h1
theorem val_mk {τ : Ty} {x : τ.D} {v : Value} (ha : τ.agg = false) (h : Flat I ρ τ x [v]) : Val I ρ τ x v := ⟨[v], h, by simp [ha]⟩

theorem val_mono {J : Nat → Option Obj} {ρ' : Nat → Place} (hI : Sub I J) {τ : Ty} {x : τ.D} {v : Value} (hn : Names (fun b => ρ' b = ρ b) τ x) (h : Val I ρ τ x v) : Val J ρ' τ x v := by
  obtain ⟨us, h1, h2⟩ := h
  exact ⟨us, flat_mono hI τ x us hn h1, h2⟩

def NamesAV (p : Nat → Prop) : AV → Prop
  | .v τ x => Names p τ x
  | .tup l => ∀ s ∈ l, Names p s.1 s.2
  | .dead => True

theorem vals_mono {J : Nat → Option Obj} {ρ' : Nat → Place} (hI : Sub I J) : ∀ (l : List SV) (vs : List Value), (∀ s ∈ l, Names (fun b => ρ' b = ρ b) s.1 s.2) → Vals I ρ l vs → Vals J ρ' l vs
  | [], _, _, h => h
  | s :: l, vs, hn, h => by
    obtain ⟨v, vs', h1, h2, h3⟩ := h
    exact ⟨v, vs', h1, val_mono hI (hn s (List.mem_cons_self ..)) h2, vals_mono hI l vs' (fun s hs => hn s (List.mem_cons_of_mem _ hs)) h3⟩

theorem avRel_mono {J : Nat → Option Obj} {ρ' : Nat → Place} (hI : Sub I J) {x : AV} {v : Value} (hn : NamesAV (fun b => ρ' b = ρ b) x) (h : AVRel I ρ x v) : AVRel J ρ' x v := by
  cases x with
  | v τ x => exact val_mono hI hn h
  | tup l => obtain ⟨vs, h1, h2⟩ := h; exact ⟨vs, h1, vals_mono hI l _ hn h2⟩
  | dead => trivial

theorem namesAV_all {x : AV} {p : Nat → Prop} (h : ∀ b, p b) : NamesAV p x := by
  cases x with
  | v τ x => exact names_all τ x h
  | tup l => exact fun s _ => names_all s.1 s.2 h
  | dead => trivial

/-! ### Killed references -/
theorem within_kill (p : Nat → Bool) (r : Ref) : (r.kill p).within fun b => p b = false := by
  unfold Ref.kill
  cases h : r.hits p with
  | true => exact trivial
  | false =>
    cases r with
    | dead => trivial
    | ptr b q => exact h
    | sl b o l => exact h
    | mp b => exact h
    | fn f caps =>
      intro b hb
      simp only [Ref.hits] at h
      simpa using (List.any_eq_false.1 h) b hb

theorem names_killT (p : Nat → Bool) : ∀ (τ : Ty) (x : τ.D), Names (fun b => p b = false) τ (killT p τ x)
  | .int _, _ | .bool, _ | .str, _ | .nl, _ | .nilp, _ | .nilm, _ | .nili, _ | .nilf, _ | .unit, _ | .tag, _ | .sl _, _ | .ptr _, _ => trivial
  | .pair a b, x => ⟨names_killT p a _, names_killT p b _⟩
  | .arr n t, xs => by
    intro x hx
    obtain ⟨y, _, rfl⟩ := List.mem_map.1 hx
    exact names_killT p t y
  | .ifc _ a, x => names_killT p a x
  | .ref, r => within_kill p r

theorem refRel_kill {p : Nat → Bool} {r : Ref} {v : Value} (h : RefRel ρ r v) : RefRel ρ (r.kill p) v := by
  unfold Ref.kill
  cases r.hits p with
  | true => exact refRel_one h
  | false => exact h

theorem flats_map {α : Type} {R : α → List Value → Prop} {f : α → α} : ∀ (xs : List α) (vs : List Value), (∀ x us, R x us → R (f x) us) → Flats R xs vs → Flats R (xs.map f) vs
  | [], _, _, h => h
  | x :: xs, vs, hi, h => by
    obtain ⟨u, v, h1, h2, h3⟩ := h
    exact ⟨u, v, h1, hi x u h2, flats_map xs v hi h3⟩

theorem flat_killT (p : Nat → Bool) : ∀ (τ : Ty) (x : τ.D) (vs : List Value), Flat I ρ τ x vs → Flat I ρ τ (killT p τ x) vs
  | .int _, _, _, h => h
  | .bool, _, _, h => h
  | .str, _, _, h => h
  | .nl, _, _, h => h
  | .nilp, _, _, h => h
  | .nilm, _, _, h => h
  | .nili, _, _, h => h
  | .nilf, _, _, h => h
  | .unit, _, _, h => h
  | .tag, _, _, h => h
  | .sl _, _, _, h => h
  | .ptr _, _, _, h => h
  | .pair a b, x, vs, h => by
    obtain ⟨u, v, h1, h2, h3⟩ := h
    exact ⟨u, v, h1, flat_killT p a _ u h2, flat_killT p b _ v h3⟩
  | .arr n t, xs, vs, h => by
    refine ⟨?_, flats_map xs vs (fun x us => flat_killT p t x us) h.2⟩
    show (List.map (killT p t) xs).length = n
    rw [List.length_map]; exact h.1
  | .ref, r, vs, h => by
    obtain ⟨v, h1, h2⟩ := h
    exact ⟨v, h1, refRel_kill h2⟩
  | .ifc _ a, x, vs, h => by
    obtain ⟨v, us, h1, h2, h3⟩ := h
    exact ⟨v, us, h1, flat_killT p a x us h2, h3⟩

theorem flat_killR {p : Nat → Bool} {τ : Ty} {x : τ.D} {vs : List Value} (h : Flat I ρ τ x vs) : Flat I ρ τ (killR p τ x) vs := by
  unfold killR
  cases τ.refs with
  | true => exact flat_killT p τ x vs h
  | false => exact h
theorem names_killR (p : Nat → Bool) (τ : Ty) (x : τ.D) : Names (fun b => p b = false) τ (killR p τ x) := by
  unfold killR
  cases h : τ.refs with
  | true => exact names_killT p τ x
  | false => exact names_norefs τ x h
theorem val_killR {p : Nat → Bool} {τ : Ty} {x : τ.D} {v : Value} (h : Val I ρ τ x v) : Val I ρ τ (killR p τ x) v := by
  obtain ⟨us, h1, h2⟩ := h
  exact ⟨us, flat_killR h1, h2⟩
theorem vals_kill {p : Nat → Bool} : ∀ (l : List SV) (vs : List Value), Vals I ρ l vs → Vals I ρ (l.map fun s => ⟨s.1, killR p s.1 s.2⟩) vs
  | [], _, h => h
  | s :: l, vs, h => by
    obtain ⟨v, vs', h1, h2, h3⟩ := h
    exact ⟨v, vs', h1, val_killR h2, vals_kill l vs' h3⟩
theorem avRel_kill {p : Nat → Bool} {x : AV} {v : Value} (h : AVRel I ρ x v) : AVRel I ρ (x.kill p) v := by
  cases x with
  | v τ x => exact val_killR h
  | tup l => obtain ⟨vs, h1, h2⟩ := h; exact ⟨vs, h1, vals_kill l _ h2⟩
  | dead => trivial
theorem namesAV_kill (p : Nat → Bool) (x : AV) : NamesAV (fun b => p b = false) (x.kill p) := by
  cases x with
  | v τ x => exact names_killR p τ x
  | tup l =>
    intro s hs
    obtain ⟨y, _, rfl⟩ := List.mem_map.1 hs
    exact names_killR p y.1 y.2
  | dead => trivial

/-! ### References that stand for something name blocks in use -/
theorem capRel_used : ∀ (caps : List Nat) (vs : List Value), CapRel ρ caps vs → ∀ b ∈ caps, ρ b ≠ .none
  | [], _, _, b, hb => by cases hb
  | c :: r, vs, h, b, hb => by
    obtain ⟨g, k, s, vs', h1, _, h3⟩ := h
    rcases List.mem_cons.1 hb with rfl | hb
    · rw [h1]; simp
    · exact capRel_used r vs' h3 b hb
theorem refRel_used {r : Ref} {v : Value} (h : RefRel ρ r v) : r.within fun b => ρ b ≠ .none := by
  cases r with
  | dead => trivial
  | ptr b p => obtain ⟨g, c, s, h1, _⟩ := h; simp [Ref.within, h1]
  | sl b o l =>
    simp only [RefRel] at h
    intro hb
    rw [hb] at h
    exact h
  | mp b => obtain ⟨g, c, s, h1, _⟩ := h; simp [Ref.within, h1]
  | fn f caps => obtain ⟨vs, _, h2⟩ := h; exact capRel_used caps _ h2
theorem flats_each {α : Type} {R : α → List Value → Prop} {p : α → Prop} (hR : ∀ x vs, R x vs → p x) : ∀ xs vs, Flats R xs vs → ∀ x ∈ xs, p x
  | [], vs, h => by simp
  | x :: xs, vs, h => by
    obtain ⟨u, v, _, h1, h2⟩ := h
    intro y hy
    rcases List.mem_cons.1 hy with rfl | hy
    · exact hR _ _ h1
    · exact flats_each hR xs v h2 y hy
theorem flat_used : ∀ (τ : Ty) (x : τ.D) (vs : List Value), Flat I ρ τ x vs → Names (fun b => ρ b ≠ .none) τ x
  | .int _, _, _, _ | .bool, _, _, _ | .str, _, _, _ | .nl, _, _, _ | .nilp, _, _, _ | .nilm, _, _, _ | .nili, _, _, _ | .nilf, _, _, _ | .unit, _, _, _ | .tag, _, _, _ | .sl _, _, _, _ | .ptr _, _, _, _ => trivial
  | .pair a b, x, vs, h => by
    obtain ⟨u, v, _, h1, h2⟩ := h
    exact ⟨flat_used a _ _ h1, flat_used b _ _ h2⟩
  | .arr n t, xs, vs, h => flats_each (fun x vs h => flat_used t x vs h) xs vs h.2
  | .ref, r, vs, h => by obtain ⟨v, _, h2⟩ := h; exact refRel_used h2
  | .ifc _ a, x, vs, h => by obtain ⟨v, us, _, h2, _⟩ := h; exact flat_used a x us h2
theorem val_used {τ : Ty} {x : τ.D} {v : Value} (h : Val I ρ τ x v) : Names (fun b => ρ b ≠ .none) τ x := by
  obtain ⟨us, h1, _⟩ := h
  exact flat_used τ x us h1
theorem vals_used : ∀ (l : List SV) (vs : List Value), Vals I ρ l vs → ∀ s ∈ l, Names (fun b => ρ b ≠ .none) s.1 s.2
  | [], _, _, s, hs => by cases hs
  | x :: l, vs, h, s, hs => by
    obtain ⟨v, vs', _, h2, h3⟩ := h
    rcases List.mem_cons.1 hs with rfl | hs
    · exact val_used h2
    · exact vals_used l vs' h3 s hs
theorem avRel_used {x : AV} {v : Value} (h : AVRel I ρ x v) : NamesAV (fun b => ρ b ≠ .none) x := by
  cases x with
  | v τ x => exact val_used h
  | tup l => obtain ⟨vs, _, h2⟩ := h; exact vals_used l _ h2
  | dead => trivial

/-- As before on all blocks in use. -/
def Agree (ρ ρ' : Nat → Place) : Prop := ∀ b, ρ b ≠ .none → ρ' b = ρ b
theorem Agree.refl (ρ : Nat → Place) : Agree ρ ρ := fun _ _ => rfl
variable {J : Nat → Option Obj} {ρ' : Nat → Place}
theorem flat_keep (hI : Sub I J) (ha : Agree ρ ρ') {τ : Ty} {x : τ.D} {vs : List Value} (h : Flat I ρ τ x vs) : Flat J ρ' τ x vs :=
  flat_mono hI τ x vs (names_imp ha τ x (flat_used τ x vs h)) h
theorem val_keep (hI : Sub I J) (ha : Agree ρ ρ') {τ : Ty} {x : τ.D} {v : Value} (h : Val I ρ τ x v) : Val J ρ' τ x v :=
  val_mono hI (names_imp ha τ x (val_used h)) h
theorem avRel_keep (hI : Sub I J) (ha : Agree ρ ρ') {x : AV} {v : Value} (h : AVRel I ρ x v) : AVRel J ρ' x v := by
  refine avRel_mono hI ?_ h
  have := avRel_used h
  cases x with
  | v τ x => exact names_imp ha τ x this
  | tup l => exact fun s hs => names_imp ha s.1 s.2 (this s hs)
  | dead => trivial
theorem flats_keep (hI : Sub I J) (ha : Agree ρ ρ') {τ : Ty} {xs : List τ.D} {vs : List Value} (h : Flats (Flat I ρ τ) xs vs) : Flats (Flat J ρ' τ) xs vs :=
  flats_imp xs vs (fun x _ us hu => flat_keep hI ha hu) h
theorem entRel_keep (hI : Sub I J) (ha : Agree ρ ρ') {κ τ : Ty} : ∀ (es : List (κ.D × τ.D)) (ms : List MapEntry), EntRel I ρ κ τ es ms → EntRel J ρ' κ τ es ms
  | [], _, h => h
  | e :: es, ms, h => by
    obtain ⟨m, ms', h1, h2, h3, h4⟩ := h
    exact ⟨m, ms', h1, val_keep hI ha h2, val_keep hI ha h3, entRel_keep hI ha es ms' h4⟩

/-- Where the block of an object's own is as it was, it stands for what it stood for. -/
theorem hRel_keep (hI : Sub I J) (ha : Agree ρ ρ') {w w' : World} {i : Nat} {o : HObj} (hi : ρ' i = ρ i) (hw : ∀ g c s, ρ i = .blk g c s → w'.heap[g]? = w.heap[g]?) (h : HRel I ρ w i o) : HRel J ρ' w' i o := by
  cases o with
  | dead => trivial
  | var τ x t =>
    obtain ⟨g, c, s, us, h1, h2, h3⟩ := h
    exact ⟨g, c, s, us, hi.trans h1, (hw _ _ _ h1).trans h2, flat_keep hI ha h3⟩
  | row τ xs t =>
    rcases h with ⟨h1, h2⟩ | ⟨g, c, us, spare, h1, h2, h3⟩
    · exact .inl ⟨hi.trans h1, h2⟩
    · exact .inr ⟨g, c, us, spare, hi.trans h1, (hw _ _ _ h1).trans h2, h3.1, h3.2.1, flats_keep hI ha h3.2.2⟩
  | map κ τ es =>
    obtain ⟨g, c, s, ms, k, h1, h2, h3, h4⟩ := h
    exact ⟨g, c, s, ms, k, hi.trans h1, (hw _ _ _ h1).trans h2, entRel_keep hI ha es _ h3, h4⟩

end
end Go.Proofs.Ytdjdbjcapenjeaa.Dx

/- The steps that a world takes under the abstract heap. -/
namespace Go.Proofs.Ytdjdbjcapenjeaa.Dx
open Go Go.RowKit
set_option linter.unusedVariables false

def upd (ρ : Nat → Place) (n : Nat) (p : Place) : Nat → Place := fun b => if b = n then p else ρ b
theorem upd_same (ρ : Nat → Place) (n : Nat) (p : Place) : upd ρ n p n = p := by simp [upd]
theorem upd_ne (ρ : Nat → Place) {n b : Nat} (p : Place) (h : b ≠ n) : upd ρ n p b = ρ b := by simp [upd, h]

/-- w' is w but for new blocks, and perhaps block g. -/
structure Moved (w w' : World) (g : Option Nat) : Prop where
  os : w'.os = w.os
  tape : w'.tape = w.tape
  output : w'.output = w.output
  size : w.heap.size ≤ w'.heap.size
  far : ∀ k, k < w.heap.size → some k ≠ g → w'.heap[k]? = w.heap[k]?

theorem Moved.refl (w : World) (g : Option Nat) : Moved w w g := ⟨rfl, rfl, rfl, Nat.le_refl _, fun _ _ _ => rfl⟩
theorem Moved.trans {a b c : World} {g : Option Nat} (h : Moved a b g) (k : Moved b c g) : Moved a c g :=
  ⟨k.os.trans h.os, k.tape.trans h.tape, k.output.trans h.output, Nat.le_trans h.size k.size, fun i hi hg => (k.far i (Nat.lt_of_lt_of_le hi h.size) hg).trans (h.far i hi hg)⟩
theorem Moved.drewN (w : World) (n : Nat) (g : Option Nat) : Moved w { w with drawn := w.drawn + n } g := ⟨rfl, rfl, rfl, Nat.le_refl _, fun _ _ _ => rfl⟩
theorem Moved.alloc (w : World) (o : Obj) (g : Option Nat) : Moved w (w.alloc o) g :=
  ⟨rfl, rfl, rfl, by simp, fun k hk _ => Below.heap_alloc _ _ _ hk⟩

section
variable {B : Base} {I : Nat → Option Obj} {ρ : Nat → Place} {H : List HObj} {w : World}

theorem lt_of_heap {g : Nat} {o : Obj} (h : w.heap[g]? = some o) : g < w.heap.size := (Array.getElem?_eq_some_iff.1 h).1

theorem Inv.ilt (h : Inv B I ρ H w) {g : Nat} {o : Obj} (hg : I g = some o) : g < w.heap.size := lt_of_heap (h.imm g o hg)
theorem Inv.zlt (h : Inv B I ρ H w) {g : Nat} {o : Obj} (hg : B.Z g = some o) : g < w.heap.size := lt_of_heap (h.frm g o hg)

/-- Nothing of what is kept stands in a block of one's own. -/
theorem Inv.moved_far (h : Inv B I ρ H w) {w' : World} {g : Option Nat} (hm : Moved w w' g) (hI : ∀ k, g = some k → I k = none) (hZ : ∀ k, g = some k → B.Z k = none) :
    (∀ k o, I k = some o → w'.heap[k]? = some o) ∧ (∀ k o, B.Z k = some o → w'.heap[k]? = some o) := by
  refine ⟨fun k o hk => ?_, fun k o hk => ?_⟩
  · rw [hm.far k (h.ilt hk) (fun e => by have := hI k e.symm; rw [this] at hk; cases hk)]; exact h.imm k o hk
  · rw [hm.far k (h.zlt hk) (fun e => by have := hZ k e.symm; rw [this] at hk; cases hk)]; exact h.frm k o hk

theorem getElem?_append_one {α : Type} {l : List α} {x y : α} {i : Nat} (h : (l ++ [x])[i]? = some y) : (i < l.length ∧ l[i]? = some y) ∨ (i = l.length ∧ y = x) := by
  rcases Nat.lt_trichotomy i l.length with hi | hi | hi
  · rw [List.getElem?_append_left hi] at h; exact .inl ⟨hi, h⟩
  · subst hi; rw [List.getElem?_append_right (Nat.le_refl _)] at h; simp at h; exact .inr ⟨rfl, h.symm⟩
  · rw [List.getElem?_append_right (by omega)] at h
    rw [List.getElem?_singleton, if_neg (by omega)] at h
    cases h

/-- A new object. -/
theorem Inv.new (h : Inv B I ρ H w) {w' : World} {pl : Place} {ob : HObj} (hm : Moved w w' none) (hp : pl ≠ .none) (hg : ∀ g c s, pl = .blk g c s → w.heap.size ≤ g ∧ g < w'.heap.size)
    (ho : HRel I (upd ρ H.length pl) w' H.length ob) : Inv B I (upd ρ H.length pl) (H ++ [ob]) w' := by
  have hfar := h.moved_far hm (fun _ e => by cases e) (fun _ e => by cases e)
  have hag : Agree ρ (upd ρ H.length pl) := fun b hb => upd_ne _ _ (fun e => hb (h.fresh b (by omega)))
  have hkeep : ∀ i o, i < H.length → H[i]? = some o → upd ρ H.length pl i = ρ i := fun i o hi _ => upd_ne _ _ (by omega)
  refine ⟨hfar.1, h.dis, hfar.2, ?_, ?_, ?_, ?_, hm.os.trans h.os, hm.tape.trans h.tape, hm.output.trans h.output, Nat.le_trans h.size hm.size⟩
  · intro i o hi
    rcases getElem?_append_one hi with ⟨hlt, hi⟩ | ⟨rfl, rfl⟩
    · cases hl : o.live with
      | false => cases o <;> first | trivial | (simp [HObj.live] at hl)
      | true => exact hRel_keep (Sub.refl I) hag (hkeep i o hlt hi) (fun g c s hb => hm.far g (h.sep i o hi hl g c s hb).2.2 (by simp)) (h.own i o hi)
    · exact ho
  · intro i o hi hl g c s hb
    rcases getElem?_append_one hi with ⟨hlt, hi⟩ | ⟨rfl, rfl⟩
    · rw [hkeep i o hlt hi] at hb
      obtain ⟨h1, h2, h3⟩ := h.sep i o hi hl g c s hb
      exact ⟨h1, h2, Nat.lt_of_lt_of_le h3 hm.size⟩
    · rw [upd_same] at hb
      obtain ⟨h1, h2⟩ := hg g c s hb
      refine ⟨?_, ?_, h2⟩
      · cases he : I g with
        | none => rfl
        | some o => exact absurd (h.ilt he) (by omega)
      · cases he : B.Z g with
        | none => rfl
        | some o => exact absurd (h.zlt he) (by omega)
  · intro i j oi oj hi hj li lj g c s c' s' hbi hbj
    rcases getElem?_append_one hi with ⟨hlti, hi'⟩ | ⟨rfl, rfl⟩ <;> rcases getElem?_append_one hj with ⟨hltj, hj'⟩ | ⟨rfl, rfl⟩
    · rw [hkeep i oi hlti hi'] at hbi
      rw [hkeep j oj hltj hj'] at hbj
      exact h.inj i j oi oj hi' hj' li lj g c s c' s' hbi hbj
    · rw [hkeep i oi hlti hi'] at hbi
      rw [upd_same] at hbj
      have h1 := (h.sep i oi hi' li g c s hbi).2.2
      have h2 := (hg g c' s' hbj).1
      omega
    · rw [hkeep j oj hltj hj'] at hbj
      rw [upd_same] at hbi
      have h1 := (h.sep j oj hj' lj g c' s' hbj).2.2
      have h2 := (hg g c s hbi).1
      omega
    · rfl
  · intro b hb
    rw [List.length_append, List.length_singleton] at hb
    rw [upd_ne _ _ (by omega)]
    exact h.fresh b (by omega)

theorem getElem?_set_some {α : Type} {l : List α} {b i : Nat} {x y : α} (h : (l.set b x)[i]? = some y) : (i ≠ b ∧ l[i]? = some y) ∨ (i = b ∧ y = x ∧ b < l.length) := by
  rw [List.getElem?_set] at h
  split at h
  · split at h
    · exact .inr ⟨by omega, by simpa using h.symm, by assumption⟩
    · cases h
  · exact .inl ⟨by omega, h⟩

/-- An object of one's own turns into another where it stands. -/
theorem Inv.write (h : Inv B I ρ H w) {w' : World} {b g c s : Nat} {o ob : HObj} (hb : H[b]? = some o) (hl : o.live = true) (hρ : ρ b = .blk g c s) (hm : Moved w w' (some g))
    (ho : HRel I ρ w' b ob) : Inv B I ρ (H.set b ob) w' := by
  obtain ⟨s1, s2, s3⟩ := h.sep b o hb hl g c s hρ
  have hfar := h.moved_far hm (fun k e => by cases e; exact s1) (fun k e => by cases e; exact s2)
  refine ⟨hfar.1, h.dis, hfar.2, ?_, ?_, ?_, fun b hb => h.fresh b (by simpa using hb), hm.os.trans h.os, hm.tape.trans h.tape, hm.output.trans h.output, Nat.le_trans h.size hm.size⟩
  · intro i x hi
    rcases getElem?_set_some hi with ⟨hne, hi⟩ | ⟨rfl, rfl, _⟩
    · cases hlx : x.live with
      | false => cases x <;> first | trivial | (simp [HObj.live] at hlx)
      | true =>
        refine hRel_keep (Sub.refl I) (Agree.refl ρ) rfl (fun g' c' s' hb' => hm.far g' (h.sep i x hi hlx g' c' s' hb').2.2 fun e => ?_) (h.own i x hi)
        cases e
        exact hne (h.inj i b x o hi hb hlx hl g c' s' c s hb' hρ)
    · exact ho
  · intro i x hi hlx g' c' s' hb'
    rcases getElem?_set_some hi with ⟨hne, hi⟩ | ⟨rfl, rfl, _⟩
    · obtain ⟨t1, t2, t3⟩ := h.sep i x hi hlx g' c' s' hb'
      exact ⟨t1, t2, Nat.lt_of_lt_of_le t3 hm.size⟩
    · rw [hρ] at hb'
      cases hb'
      exact ⟨s1, s2, Nat.lt_of_lt_of_le s3 hm.size⟩
  · intro i j oi oj hi hj li lj g' c' s' c'' s'' hbi hbj
    rcases getElem?_set_some hi with ⟨hni, hi'⟩ | ⟨rfl, rfl, _⟩ <;> rcases getElem?_set_some hj with ⟨hnj, hj'⟩ | ⟨rfl, rfl, _⟩
    · exact h.inj i j oi oj hi' hj' li lj g' c' s' c'' s'' hbi hbj
    · exact h.inj i _ oi o hi' hb li hl g' c' s' c'' s'' hbi hbj
    · exact h.inj _ j o oj hb hj' hl lj g' c' s' c'' s'' hbi hbj
    · rfl

/-- What is told of an object does not hang on references that are struck. -/
theorem hRel_kill {p : Nat → Bool} {i : Nat} {o : HObj} (h : HRel I ρ w i o) : HRel I ρ w i (o.kill p) := by
  cases o with
  | dead => trivial
  | var τ x t => obtain ⟨g, c, s, us, h1, h2, h3⟩ := h; exact ⟨g, c, s, us, h1, h2, flat_killR h3⟩
  | row τ xs t =>
    rcases h with ⟨h1, h2⟩ | ⟨g, c, us, spare, h1, h2, h3, h4, h5⟩
    · subst h2; exact .inl ⟨h1, by cases τ.refs <;> rfl⟩
    · refine .inr ⟨g, c, us, spare, h1, h2, h3, ?_, ?_⟩
      · cases τ.refs
        · exact h4
        · show (List.map _ xs).length ≤ c
          rw [List.length_map]; exact h4
      · cases τ.refs
        · exact h5
        · exact flats_map xs us (fun x us => flat_killT p τ x us) h5
  | map κ τ es =>
    obtain ⟨g, c, s, ms, k, h1, h2, h3, h4⟩ := h
    refine ⟨g, c, s, ms, k, h1, h2, ?_, h4⟩
    cases κ.refs || τ.refs
    · exact h3
    · show EntRel I ρ κ τ (es.map fun e => (killT p κ e.1, killT p τ e.2)) ms.toList
      generalize ms.toList = l at h3
      clear h2 h4
      induction es generalizing l with
      | nil => exact h3
      | cons e es ih =>
        obtain ⟨m, ms', h1, ⟨u1, f1, g1⟩, ⟨u2, f2, g2⟩, h4⟩ := h3
        exact ⟨m, ms', h1, ⟨u1, flat_killT p κ _ _ f1, g1⟩, ⟨u2, flat_killT p τ _ _ f2, g2⟩, ih ms' h4⟩
theorem live_kill (p : Nat → Bool) (o : HObj) : (o.kill p).live = o.live := by cases o <;> rfl

def NamesH (p : Nat → Prop) : HObj → Prop
  | .dead => True
  | .var τ x _ => Names p τ x
  | .row τ xs _ => ∀ x ∈ xs, Names p τ x
  | .map κ τ es => ∀ e ∈ es, Names p κ e.1 ∧ Names p τ e.2

theorem namesH_kill (p : Nat → Bool) (o : HObj) : NamesH (fun b => p b = false) (o.kill p) := by
  cases o with
  | dead => trivial
  | var τ x t => exact names_killR p τ x
  | row τ xs t =>
    show ∀ x ∈ (cond τ.refs (xs.map (killT p τ)) xs), _
    cases h : τ.refs
    · exact fun x _ => names_norefs τ x h
    · intro x hx
      obtain ⟨y, _, rfl⟩ := List.mem_map.1 hx
      exact names_killT p τ y
  | map κ τ es =>
    show ∀ e ∈ (cond (κ.refs || τ.refs) (es.map fun e => (killT p κ e.1, killT p τ e.2)) es), _
    cases h : κ.refs || τ.refs
    · rw [Bool.or_eq_false_iff] at h
      exact fun e _ => ⟨names_norefs κ e.1 h.1, names_norefs τ e.2 h.2⟩
    · intro e he
      obtain ⟨y, _, rfl⟩ := List.mem_map.1 he
      exact ⟨names_killT p κ y.1, names_killT p τ y.2⟩

theorem entRel_mono {J : Nat → Option Obj} {ρ' : Nat → Place} (hI : Sub I J) {κ τ : Ty} : ∀ (es : List (κ.D × τ.D)) (ms : List MapEntry), (∀ e ∈ es, Names (fun b => ρ' b = ρ b) κ e.1 ∧ Names (fun b => ρ' b = ρ b) τ e.2) → EntRel I ρ κ τ es ms → EntRel J ρ' κ τ es ms
  | [], _, _, h => h
  | e :: es, ms, hn, h => by
    obtain ⟨m, ms', h1, h2, h3, h4⟩ := h
    have := hn e (List.mem_cons_self ..)
    exact ⟨m, ms', h1, val_mono hI this.1 h2, val_mono hI this.2 h3, entRel_mono hI es ms' (fun x hx => hn x (List.mem_cons_of_mem _ hx)) h4⟩

theorem hRel_mono {J : Nat → Option Obj} {ρ' : Nat → Place} (hI : Sub I J) {w' : World} {i : Nat} {o : HObj} (hn : NamesH (fun b => ρ' b = ρ b) o) (hi : ρ' i = ρ i) (hw : ∀ g c s, ρ i = .blk g c s → w'.heap[g]? = w.heap[g]?) (h : HRel I ρ w i o) : HRel J ρ' w' i o := by
  cases o with
  | dead => trivial
  | var τ x t =>
    obtain ⟨g, c, s, us, h1, h2, h3⟩ := h
    exact ⟨g, c, s, us, hi.trans h1, (hw _ _ _ h1).trans h2, flat_mono hI τ x us hn h3⟩
  | row τ xs t =>
    rcases h with ⟨h1, h2⟩ | ⟨g, c, us, spare, h1, h2, h3⟩
    · exact .inl ⟨hi.trans h1, h2⟩
    · exact .inr ⟨g, c, us, spare, hi.trans h1, (hw _ _ _ h1).trans h2, h3.1, h3.2.1, flats_imp xs us (fun x hx us hu => flat_mono hI τ x us (hn x hx) hu) h3.2.2⟩
  | map κ τ es =>
    obtain ⟨g, c, s, ms, k, h1, h2, h3, h4⟩ := h
    exact ⟨g, c, s, ms, k, hi.trans h1, (hw _ _ _ h1).trans h2, entRel_mono hI es _ hn h3, h4⟩

/-- An object of one's own moves to a new place: every reference to it is struck. -/
theorem Inv.move (h : Inv B I ρ H w) {w' : World} {b : Nat} {o ob : HObj} {pl : Place} (hb : H[b]? = some o) (hl : o.live = true) (hm : Moved w w' none) (hp : pl ≠ .none)
    (hg : ∀ g c s, pl = .blk g c s → w.heap.size ≤ g ∧ g < w'.heap.size) (ho : HRel I (upd ρ b pl) w' b ob) :
    Inv B I (upd ρ b pl) ((H.map (HObj.kill (Nat.beq b))).set b ob) w' := by
  have hfar := h.moved_far hm (fun _ e => by cases e) (fun _ e => by cases e)
  have hblt : b < H.length := (List.getElem?_eq_some_iff.1 hb).1
  have hold : ∀ i x, i ≠ b → (H.map (HObj.kill (Nat.beq b)))[i]? = some x → ∃ y, H[i]? = some y ∧ x = y.kill (Nat.beq b) := by
    intro i x _ hi
    rw [List.getElem?_map] at hi
    obtain ⟨y, h1, h2⟩ := Option.map_eq_some_iff.1 hi
    exact ⟨y, h1, h2.symm⟩
  refine ⟨hfar.1, h.dis, hfar.2, ?_, ?_, ?_, ?_, hm.os.trans h.os, hm.tape.trans h.tape, hm.output.trans h.output, Nat.le_trans h.size hm.size⟩
  · intro i x hi
    rcases getElem?_set_some hi with ⟨hne, hi⟩ | ⟨rfl, rfl, _⟩
    · obtain ⟨y, hy, rfl⟩ := hold i x hne hi
      cases hly : y.live with
      | false => cases y <;> first | trivial | (simp [HObj.live] at hly)
      | true =>
        refine hRel_mono (Sub.refl I) ?_ (upd_ne _ _ hne) (fun g c s hb => hm.far g (h.sep i y hy hly g c s hb).2.2 (by simp)) (hRel_kill (h.own i y hy))
        have hk := namesH_kill (Nat.beq b) y
        have himp : ∀ k, Nat.beq b k = false → upd ρ b pl k = ρ k := fun k hk => upd_ne _ _ (fun e => by subst e; simp at hk)
        revert hk
        generalize y.kill (Nat.beq b) = z
        intro hk
        cases z with
        | dead => trivial
        | var τ x t => exact names_imp himp τ x hk
        | row τ xs t => exact fun x hx => names_imp himp τ x (hk x hx)
        | map κ τ es => exact fun e he => ⟨names_imp himp κ _ (hk e he).1, names_imp himp τ _ (hk e he).2⟩
    · exact ho
  · intro i x hi hlx g c s hbb
    rcases getElem?_set_some hi with ⟨hne, hi⟩ | ⟨rfl, rfl, _⟩
    · obtain ⟨y, hy, rfl⟩ := hold i x hne hi
      rw [live_kill] at hlx
      rw [upd_ne _ _ hne] at hbb
      obtain ⟨t1, t2, t3⟩ := h.sep i y hy hlx g c s hbb
      exact ⟨t1, t2, Nat.lt_of_lt_of_le t3 hm.size⟩
    · rw [upd_same] at hbb
      obtain ⟨h1, h2⟩ := hg g c s hbb
      refine ⟨?_, ?_, h2⟩
      · cases he : I g with
        | none => rfl
        | some o => exact absurd (h.ilt he) (by omega)
      · cases he : B.Z g with
        | none => rfl
        | some o => exact absurd (h.zlt he) (by omega)
  · intro i j oi oj hi hj li lj g c s c' s' hbi hbj
    rcases getElem?_set_some hi with ⟨hni, hi'⟩ | ⟨rfl, rfl, _⟩ <;> rcases getElem?_set_some hj with ⟨hnj, hj'⟩ | ⟨rfl, rfl, _⟩
    · obtain ⟨y, hy, rfl⟩ := hold i oi hni hi'
      obtain ⟨z, hz, rfl⟩ := hold j oj hnj hj'
      rw [live_kill] at li lj
      rw [upd_ne _ _ hni] at hbi
      rw [upd_ne _ _ hnj] at hbj
      exact h.inj i j y z hy hz li lj g c s c' s' hbi hbj
    · obtain ⟨y, hy, rfl⟩ := hold i oi hni hi'
      rw [live_kill] at li
      rw [upd_ne _ _ hni] at hbi
      rw [upd_same] at hbj
      have h1 := (h.sep i y hy li g c s hbi).2.2
      have h2 := (hg g c' s' hbj).1
      omega
    · obtain ⟨z, hz, rfl⟩ := hold j oj hnj hj'
      rw [live_kill] at lj
      rw [upd_ne _ _ hnj] at hbj
      rw [upd_same] at hbi
      have h1 := (h.sep j z hz lj g c' s' hbj).2.2
      have h2 := (hg g c s hbi).1
      omega
    · rfl
  · intro k hk
    rw [List.length_set, List.length_map] at hk
    rw [upd_ne _ _ (by omega)]
    exact h.fresh k hk

/-- The same place, another order of references: those to it are struck. -/
theorem Inv.strike (h : Inv B I ρ H w) (p : Nat → Bool) : Inv B I ρ (H.map (HObj.kill p)) w := by
  have hold : ∀ (i : Nat) (x : HObj), (H.map (HObj.kill p))[i]? = some x → ∃ y : HObj, H[i]? = some y ∧ x = y.kill p := by
    intro i x hi
    rw [List.getElem?_map] at hi
    obtain ⟨y, h1, h2⟩ := Option.map_eq_some_iff.1 hi
    exact ⟨y, h1, h2.symm⟩
  refine ⟨h.imm, h.dis, h.frm, ?_, ?_, ?_, fun b hb => h.fresh b (by simpa using hb), h.os, h.tape, h.output, h.size⟩
  · intro i x hi
    obtain ⟨y, hy, rfl⟩ := hold i x hi
    exact hRel_kill (h.own i y hy)
  · intro i x hi hl
    obtain ⟨y, hy, rfl⟩ := hold i x hi
    rw [live_kill] at hl
    exact h.sep i y hy hl
  · intro i j oi oj hi hj li lj
    obtain ⟨y, hy, rfl⟩ := hold i oi hi
    obtain ⟨z, hz, rfl⟩ := hold j oj hj
    rw [live_kill] at li lj
    exact h.inj i j y z hy hz li lj

theorem Inv.drewN (h : Inv B I ρ H w) (n : Nat) : Inv B I ρ H { w with drawn := w.drawn + n } := by
  refine ⟨h.imm, h.dis, h.frm, fun i o hi => ?_, h.sep, h.inj, h.fresh, h.os, h.tape, h.output, h.size⟩
  have := h.own i o hi
  cases o <;> exact this
end
end Go.Proofs.Ytdjdbjcapenjeaa.Dx

/- The operations that answer a value, and leave the world alone. -/
namespace Go.Proofs.Ytdjdbjcapenjeaa.Dx
open Go Go.RowKit
set_option linter.unusedVariables false
set_option linter.unusedSimpArgs false

def AllP : List Prop → Prop
  | [] => True
  | p :: ps => p ∧ AllP ps
theorem all_split {c : List Prop} {q : Prop} (h : All c q) : AllP c ∧ q := by
  induction c with
  | nil => exact ⟨trivial, h⟩
  | cons p ps ih => exact ⟨⟨h.1, (ih h.2).1⟩, (ih h.2).2⟩

/-- The cells of a zero value. -/
def zcells : Ty → Option (List Value)
  | .int k => some [.int k 0]
  | .bool => some [.bool false]
  | .str => some [.string ByteArray.empty]
  | .nl => some [.slice none 0 0]
  | .nilp => some [.pointer none]
  | .nilm => some [.map none]
  | .nili => some [.nilIface]
  | .nilf => some [.nilFunc]
  | .unit => some []
  | .pair a b => match zcells a, zcells b with
    | some u, some v => some (u ++ v)
    | _, _ => none
  | .arr n t => match zcells t with
    | some u => some (List.replicate n u).flatten
    | none => none
  | .sl t => cond t.refs none (some [.slice none 0 0])
  | _ => none

structure TabOK (C : Ctx) (P : Program) : Prop where
  desc : ∀ t i, seek C.ti t = some i → P.underlying t = some i.desc
  info : ∀ t i, seek C.ti t = some i → ∃ f, P.info? t = some f ∧ f.size = i.size ∧ f.bytes = i.bytes ∧ ∀ z, i.zero = some z → ∃ cs, zcells z = some cs ∧ f.zero = some (if z.agg then .agg cs.toArray else cs.headD undef)
  zsize : ∀ t i, seek C.ti t = some i → ∀ z, i.zero = some z → i.size = z.size
  meth : ∀ t n f, C.meth t n = some f → ∀ args w, (callMethod (.iface t (.agg #[])) n args).run P w = .ok (.enter f (#[.agg #[]] ++ args)) w
  can : ∀ f, C.can f = true → ∀ args w, (callFunc f args).run P w = .ok (.enter f args) w
  mixed : P.follows .mixedOrders = true

section
variable {I : Nat → Option Obj} {ρ : Nat → Place} {P : Program} {C : Ctx}

theorem flats_replicate {α : Type} {R : α → List Value → Prop} {x : α} {u : List Value} (h : R x u) : ∀ n, Flats R (List.replicate n x) (List.replicate n u).flatten
  | 0 => rfl
  | n + 1 => ⟨u, (List.replicate n u).flatten, by rw [List.replicate_succ, List.flatten_cons], h, flats_replicate h n⟩

theorem zcells_flat : ∀ (z : Ty) (cs : List Value), zcells z = some cs → Flat I ρ z z.dflt cs
  | .int k, cs, h => by simp [zcells] at h; subst h; rfl
  | .bool, cs, h => by simp [zcells] at h; subst h; rfl
  | .str, cs, h => by simp [zcells] at h; subst h; rfl
  | .nl, cs, h => by simp [zcells] at h; subst h; rfl
  | .nilp, cs, h => by simp [zcells] at h; subst h; rfl
  | .nilm, cs, h => by simp [zcells] at h; subst h; rfl
  | .nili, cs, h => by simp [zcells] at h; subst h; rfl
  | .nilf, cs, h => by simp [zcells] at h; subst h; rfl
  | .unit, cs, h => by simp [zcells] at h; subst h; rfl
  | .pair a b, cs, h => by
    simp only [zcells] at h
    split at h
    · rename_i u v hu hv
      cases h
      exact ⟨u, v, rfl, zcells_flat a u hu, zcells_flat b v hv⟩
    · cases h
  | .arr n t, cs, h => by
    simp only [zcells] at h
    split at h
    · rename_i u hu
      cases h
      exact ⟨List.length_replicate .., flats_replicate (zcells_flat t u hu) n⟩
    · cases h
  | .sl t, cs, h => by
    simp only [zcells] at h
    cases hr : t.refs with
    | true => rw [hr] at h; cases h
    | false => rw [hr] at h; cases h; exact ⟨hr, none, 0, rfl, Nat.le_refl _, .inl rfl⟩
  | .ptr _, cs, h => by simp [zcells] at h
  | .ref, cs, h => by simp [zcells] at h
  | .tag, cs, h => by simp [zcells] at h
  | .ifc _ _, cs, h => by simp [zcells] at h

/-- Agreement on what kind of value it is. -/
theorem val_zero (z : Ty) (cs : List Value) (h : zcells z = some cs) : Val I ρ z z.dflt (if z.agg then .agg cs.toArray else cs.headD undef) := by
  have hf := zcells_flat (I := I) (ρ := ρ) z cs h
  refine ⟨cs, hf, ?_⟩
  split
  · rfl
  · rename_i ha
    have hl := flat_length z _ cs hf
    have hs : z.size = 1 := by cases z <;> first | rfl | (simp [Ty.agg] at ha)
    rw [hs] at hl
    obtain ⟨v, rfl⟩ := List.length_eq_one_iff.1 hl
    rfl

theorem TabOK.underlying (hT : TabOK C P) {t : TypeId} {i : TI} (h : seek C.ti t = some i) (w : World) : (Go.underlying t).run P w = .ok i.desc w := by
  have := hT.desc t i h
  simp [Go.underlying, this]
theorem TabOK.sizeOf (hT : TabOK C P) {t : TypeId} {i : TI} (h : seek C.ti t = some i) (w : World) : (Go.sizeOf t).run P w = .ok i.size w := by
  obtain ⟨f, h1, h2, _⟩ := hT.info t i h
  simp [Go.sizeOf, typeInfo, h1, h2]
theorem TabOK.isAgg (hT : TabOK C P) {t : TypeId} {i : TI} (h : seek C.ti t = some i) (w : World) : (Go.isAgg t).run P w = .ok (aggD i.desc) w := by
  have := hT.underlying h w
  simp [Go.isAgg, this]
  cases i.desc <;> rfl

theorem lay_spec {t : TypeId} {τ : Ty} (h : lay C t τ = true) : ∃ i, seek C.ti t = some i ∧ aggD i.desc = τ.agg ∧ i.size = τ.size := by
  unfold lay at h
  split at h
  · rename_i i hi
    simp only [Bool.and_eq_true, beq_iff_eq] at h
    exact ⟨i, hi, h.1, Nat.eq_of_beq_eq_true h.2⟩
  · cases h

theorem same_spec {a b : Ty} (h : same a b = true) : a.agg = b.agg ∧ a.size = b.size := by
  simp only [same, Bool.and_eq_true, beq_iff_eq] at h
  exact ⟨h.1, Nat.eq_of_beq_eq_true h.2⟩

theorem knownC_spec {t : TypeId} (h : knownC C t = true) : ∃ i, seek C.ti t = some i ∧ ∀ ms, i.desc ≠ .interface ms := by
  unfold knownC at h
  split at h
  · rename_i i hi
    refine ⟨i, hi, fun ms e => ?_⟩
    rw [e] at h
    cases h
  · cases h

/-! ### Fields -/
theorem getK_flat : ∀ (τ : Ty) (x : τ.D) (k off : Nat) (us : List Value) (σ : Ty) (y : σ.D), getK τ x k off = .v σ y → Flat I ρ τ x us → ∃ pre mid post, us = pre ++ mid ++ post ∧ pre.length = off ∧ Flat I ρ σ y mid := by
  intro τ
  induction τ with
  | pair a b iha ihb =>
    intro x k off us σ y h hf
    obtain ⟨u, v, rfl, h1, h2⟩ := hf
    cases k with
    | zero =>
      simp only [getK] at h
      cases hb : Nat.beq off 0 with
      | false => rw [hb] at h; cases h
      | true =>
        rw [hb] at h
        cases h
        exact ⟨[], u, v, by simp, by simpa using (Nat.eq_of_beq_eq_true hb).symm, h1⟩
    | succ k =>
      simp only [getK] at h
      cases hb : Nat.ble a.size off with
      | false => rw [hb] at h; cases h
      | true =>
        rw [hb] at h
        obtain ⟨pre, mid, post, rfl, hl, hm⟩ := ihb x.2 k (off - a.size) v σ y h h2
        have := flat_length a _ u h1
        have hle := Nat.le_of_ble_eq_true hb
        exact ⟨u ++ pre, mid, post, by simp [List.append_assoc], by rw [List.length_append]; omega, hm⟩
  | _ => intro x k off us σ y h; simp [getK] at h

theorem getK_refs : ∀ (τ : Ty) (x : τ.D) (k off : Nat) (σ : Ty) (y : σ.D), getK τ x k off = .v σ y → τ.refs = false → σ.refs = false := by
  intro τ
  induction τ with
  | pair a b iha ihb =>
    intro x k off σ y h hr
    simp only [Ty.refs, Bool.or_eq_false_iff] at hr
    cases k with
    | zero =>
      simp only [getK] at h
      cases hb : Nat.beq off 0 with
      | false => rw [hb] at h; cases h
      | true => rw [hb] at h; cases h; exact hr.1
    | succ k =>
      simp only [getK] at h
      cases hb : Nat.ble a.size off with
      | false => rw [hb] at h; cases h
      | true => rw [hb] at h; exact ihb x.2 k _ σ y h hr.2
  | _ => intro x k off σ y h; simp [getK] at h
theorem Imm.part {a : Addr} {us pre mid post : List Value} (h : Imm I a us) (hs : a.spot = none) (e : us = pre ++ mid ++ post) : Imm I (a.add pre.length) mid := by
  obtain ⟨c, el, fz, p, q, h1, h2, h3⟩ := h
  subst e
  by_cases hz : pre.length = 0
  · have : pre = [] := List.eq_nil_of_length_eq_zero hz
    subst this
    refine ⟨c, el, fz, p, post ++ q, ?_, ?_, ?_⟩
    · simpa [Addr.add] using h1
    · rw [h2]; simp [List.append_assoc]
    · simpa [Addr.add] using h3
  · refine ⟨c, el, fz, p ++ pre, post ++ q, ?_, ?_, ?_⟩
    · simpa [Addr.add, hz] using h1
    · rw [h2]; simp [List.append_assoc]
    · simp [Addr.add, hz, h3]
theorem add_spot {a : Addr} (h : a.spot = none) (n : Nat) : (a.add n).spot = none := by
  unfold Addr.add; split
  · exact h
  · rfl
theorem add_block (a : Addr) (n : Nat) : (a.add n).block = a.block := by
  unfold Addr.add; split <;> rfl
theorem add_off (a : Addr) (n : Nat) : (a.add n).off = a.off + n := by
  unfold Addr.add; split
  · rename_i h; omega
  · rfl

theorem offs_append (p : List PE) (q : PE) : offs (p ++ [q]) = offs p + q.off := by
  induction p with
  | nil => simp [offs]
  | cons x r ih => simp only [List.cons_append, offs, ih]; omega

/-- Where the field lies. -/
theorem run_fieldAt (hT : TabOK C P) {s : TypeId} {fs : Array Field} {f : Nat} {fd : Field} (hd : descT C s = .struct fs) (hf : fs.toList[f]? = some fd) (hz : Nat.beq (sizeT C fd.type) 0 = false) {a : Addr} {v : Value} (hv : v = .pointer (some a)) (w : World) :
    (Instr.fieldAt s v f).run P w = .ok (.pointer (some (a.add fd.offset))) w := by
  subst hv
  unfold descT at hd
  split at hd
  · rename_i i hi
    have hu := hT.underlying hi w
    rw [hd] at hu
    unfold sizeT at hz
    split at hz
    · rename_i j hj
      have hs := hT.sizeOf hj w
      have hz' : j.size ≠ 0 := by intro e; rw [e] at hz; simp at hz
      have hf' : fs[f]? = some fd := by rw [← Array.getElem?_toList]; exact hf
      simp [Instr.fieldAt, hu, hf', Instr.sureAddr, fieldPlace, hs, hz']
    · simp at hz
  · cases hd

def ValOK (P : Program) (I : Nat → Option Obj) (ρ : Nat → Place) (w : World) (sem : Sem Value) (p : PV) : Prop :=
  AllP p.1 → ∃ v, sem.run P w = .ok v w ∧ AVRel I ρ p.2 v
theorem bad_ok {w : World} {sem : Sem Value} : ValOK P I ρ w sem Dx.bad := fun h => h.1.elim

theorem fieldAddr_ok (hT : TabOK C P) (w : World) {x : AV} {v : Value} (h : AVRel I ρ x v) (s : TypeId) (f : Nat) : ValOK P I ρ w (Instr.fieldAt s v f) (fieldAddrD C s x f) := by
  unfold fieldAddrD
  split
  · rename_i fs hd
    split
    · rename_i fd hf
      cases hz : Nat.beq (sizeT C fd.type) 0 with
      | true => exact bad_ok
      | false =>
        rw [cond_false]
        split
        · rename_i b p
          intro _
          obtain ⟨us, ⟨v', rfl, hr⟩, hu⟩ := h
          simp [Ty.agg] at hu
          subst hu
          obtain ⟨g, c, s', h1, rfl⟩ := hr
          refine ⟨_, run_fieldAt hT hd hf hz rfl w, val_mk rfl ⟨_, rfl, g, c, s', h1, ?_⟩⟩
          rw [offs_append]
          show _ = Value.pointer (some ⟨g, offs p + fd.offset, none⟩)
          unfold Addr.add
          split
          · rename_i e; rw [e]; rfl
          · rfl
        · rename_i τ y
          cases hg : getK τ y f fd.offset with
          | v σ z =>
            intro _
            obtain ⟨us, ⟨hn, a, vs, rfl, hs, hi, hfl⟩, hu⟩ := h
            simp [Ty.agg] at hu
            subst hu
            obtain ⟨pre, mid, post, e, hl, hm⟩ := getK_flat τ y f fd.offset vs σ z hg hfl
            refine ⟨_, run_fieldAt hT hd hf hz rfl w, val_mk rfl ⟨?_, _, mid, rfl, add_spot hs _, ?_, hm⟩⟩
            · exact getK_refs τ y f fd.offset σ z hg hn
            · rw [← hl]; exact hi.part hs e
          | tup l => exact bad_ok
          | dead => exact bad_ok
        · exact bad_ok
    · exact bad_ok
  · exact bad_ok
end
end Go.Proofs.Ytdjdbjcapenjeaa.Dx

/- Loads and stores. -/
namespace Go.Proofs.Ytdjdbjcapenjeaa.Dx
open Go Go.RowKit
set_option linter.unusedVariables false
set_option linter.unusedSimpArgs false
section
variable {B : Base} {H : List HObj} {w : World} {I : Nat → Option Obj} {ρ : Nat → Place} {P : Program} {C : Ctx}

theorem flats_get {α : Type} {R : α → List Value → Prop} {s : Nat} (hR : ∀ x vs, R x vs → vs.length = s) (d : α) : ∀ (xs : List α) (us : List Value) (i : Nat), Flats R xs us → i < xs.length →
    ∃ pre mid post, us = pre ++ mid ++ post ∧ pre.length = i * s ∧ R (xs.getD i d) mid
  | [], us, i, h, hi => by simp at hi
  | x :: xs, us, 0, h, hi => by
    obtain ⟨u, v, rfl, h1, h2⟩ := h
    exact ⟨[], u, v, by simp, by simp, h1⟩
  | x :: xs, us, i + 1, h, hi => by
    obtain ⟨u, v, rfl, h1, h2⟩ := h
    obtain ⟨pre, mid, post, rfl, hl, hm⟩ := flats_get hR d xs v i h2 (by simpa using hi)
    refine ⟨u ++ pre, mid, post, by simp [List.append_assoc], ?_, by simpa using hm⟩
    rw [List.length_append, hR _ _ h1, hl, Nat.succ_mul, Nat.add_comm]

theorem flats_set {α : Type} {R : α → List Value → Prop} {s : Nat} (hR : ∀ x vs, R x vs → vs.length = s) (y : α) (ms : List Value) (hy : R y ms) : ∀ (xs : List α) (us : List Value) (i : Nat), Flats R xs us → i < xs.length →
    ∃ pre mid post, us = pre ++ mid ++ post ∧ pre.length = i * s ∧ mid.length = s ∧ Flats R (xs.set i y) (pre ++ ms ++ post)
  | [], us, i, h, hi => by simp at hi
  | x :: xs, us, 0, h, hi => by
    obtain ⟨u, v, rfl, h1, h2⟩ := h
    exact ⟨[], u, v, by simp, by simp, hR _ _ h1, ms, v, by simp, hy, h2⟩
  | x :: xs, us, i + 1, h, hi => by
    obtain ⟨u, v, rfl, h1, h2⟩ := h
    obtain ⟨pre, mid, post, rfl, hl, hm, hs⟩ := flats_set hR y ms hy xs v i h2 (by simpa using hi)
    refine ⟨u ++ pre, mid, post, by simp [List.append_assoc], ?_, hm, u, pre ++ ms ++ post, by simp [List.append_assoc], h1, hs⟩
    rw [List.length_append, hR _ _ h1, hl, Nat.succ_mul, Nat.add_comm]

/-- Where a path leads. -/
theorem getP_flat : ∀ (p : List PE) (τ : Ty) (x : τ.D) (us : List Value), Flat I ρ τ x us → AllP (getP p τ x).1 → ∀ (σ : Ty) (y : σ.D), (getP p τ x).2 = .v σ y →
    ∃ pre mid post, us = pre ++ mid ++ post ∧ pre.length = offs p ∧ Flat I ρ σ y mid
  | [], τ, x, us, h, _, σ, y, e => by
    simp only [getP] at e
    cases e
    exact ⟨[], us, [], by simp, rfl, h⟩
  | .fld k off :: r, τ, x, us, h, hc, σ, y, e => by
    simp only [getP] at hc e
    split at e
    · rename_i a z hg
      rw [hg] at hc
      obtain ⟨pre, mid, post, rfl, hl, hm⟩ := getK_flat τ x k off us a z hg h
      obtain ⟨pre', mid', post', rfl, hl', hm'⟩ := getP_flat r a z mid hm hc σ y e
      exact ⟨pre ++ pre', mid', post' ++ post, by simp [List.append_assoc], by rw [List.length_append, hl, hl']; rfl, hm'⟩
    · simp [bad] at e
  | .idx i s :: r, τ, x, us, h, hc, σ, y, e => by
    cases τ with
    | arr n t =>
      simp only [getP] at hc e
      cases hb : Nat.beq s t.size with
      | false => rw [hb] at e; simp [bad] at e
      | true =>
        rw [hb] at e hc
        simp only [cond_true] at e hc
        have hs := Nat.eq_of_beq_eq_true hb
        obtain ⟨h1, h2⟩ := h
        obtain ⟨pre, mid, post, rfl, hl, hm⟩ := flats_get (fun x vs h => flat_length t x vs h) t.dflt x us i h2 hc.1
        obtain ⟨pre', mid', post', rfl, hl', hm'⟩ := getP_flat r t _ mid hm hc.2 σ y e
        exact ⟨pre ++ pre', mid', post' ++ post, by simp [List.append_assoc], by rw [List.length_append, hl, hl', hs]; rfl, hm'⟩
    | _ => simp [getP, bad] at e

theorem setK_flat : ∀ (τ : Ty) (x : τ.D) (k off : Nat) (us : List Value) (σ : Ty) (y : σ.D) (ms : List Value) (τ' : Ty) (x' : τ'.D), Flat I ρ τ x us → Flat I ρ σ y ms → setK τ x k off σ y = some ⟨τ', x'⟩ →
    (∃ pre mid post, us = pre ++ mid ++ post ∧ pre.length = off ∧ mid.length = ms.length ∧ Flat I ρ τ' x' (pre ++ ms ++ post)) ∧ τ'.size = τ.size ∧ τ'.agg = τ.agg := by
  intro τ
  induction τ with
  | pair a b iha ihb =>
    intro x k off us σ y ms τ' x' h hy e
    obtain ⟨u, v, rfl, h1, h2⟩ := h
    cases k with
    | zero =>
      simp only [setK] at e
      cases hb : (Nat.beq off 0 && same a σ) with
      | false => rw [hb] at e; cases e
      | true =>
        rw [hb] at e
        cases e
        rw [Bool.and_eq_true] at hb
        obtain ⟨_, hs⟩ := same_spec hb.2
        have := flat_length a _ u h1
        have := flat_length σ _ ms hy
        exact ⟨⟨[], u, v, by simp, by simpa using (Nat.eq_of_beq_eq_true hb.1).symm, by omega, ms, v, by simp, hy, h2⟩, by simp [Ty.size, hs], rfl⟩
    | succ k =>
      simp only [setK] at e
      cases hb : Nat.ble a.size off with
      | false => rw [hb] at e; cases e
      | true =>
        rw [hb] at e
        simp only [cond_true] at e
        split at e
        · rename_i c z hz
          cases e
          obtain ⟨⟨pre, mid, post, rfl, hl, hm, hf⟩, hs, _⟩ := ihb x.2 k (off - a.size) v σ y ms c z h2 hy hz
          have := flat_length a _ u h1
          have hle := Nat.le_of_ble_eq_true hb
          exact ⟨⟨u ++ pre, mid, post, by simp [List.append_assoc], by rw [List.length_append]; omega, hm, u, pre ++ ms ++ post, by simp [List.append_assoc], h1, hf⟩, by simp [Ty.size, hs], rfl⟩
        · cases e
  | _ => intro x k off us σ y ms τ' x' h hy e; simp [setK] at e

theorem setP_flat : ∀ (p : List PE) (τ : Ty) (x : τ.D) (us : List Value) (σ : Ty) (y : σ.D) (ms : List Value), Flat I ρ τ x us → Flat I ρ σ y ms → AllP (setP p τ x σ y).1 → ∀ (τ' : Ty) (x' : τ'.D), (setP p τ x σ y).2 = some ⟨τ', x'⟩ →
    (∃ pre mid post, us = pre ++ mid ++ post ∧ pre.length = offs p ∧ mid.length = ms.length ∧ Flat I ρ τ' x' (pre ++ ms ++ post)) ∧ τ'.size = τ.size ∧ τ'.agg = τ.agg
  | [], τ, x, us, σ, y, ms, h, hy, _, τ', x', e => by
    simp only [setP] at e
    cases hb : same τ σ with
    | false => rw [hb] at e; cases e
    | true =>
      rw [hb] at e
      cases e
      obtain ⟨h1, h2⟩ := same_spec hb
      have := flat_length τ _ us h
      have := flat_length σ _ ms hy
      exact ⟨⟨[], us, [], by simp, rfl, by omega, by simpa using hy⟩, h2.symm, h1.symm⟩
  | .fld k off :: r, τ, x, us, σ, y, ms, h, hy, hc, τ', x', e => by
    simp only [setP] at e hc
    cases hg : getK τ x k off with
    | tup l => rw [hg] at e; cases e
    | dead => rw [hg] at e; cases e
    | v a z =>
      rw [hg] at e hc
      simp only at e hc
      cases hq : setP r a z σ y with
      | mk c o =>
        rw [hq] at e hc
        cases o with
        | none => cases e
        | some s =>
          obtain ⟨a', z'⟩ := s
          simp only at e hc
          obtain ⟨pre, mid, post, rfl, hl, hm⟩ := getK_flat τ x k off us a z hg h
          have hrec := setP_flat r a z mid σ y ms hm hy (by rw [hq]; exact hc) a' z' (by rw [hq])
          obtain ⟨⟨pre', mid', post', rfl, hl', hm', hf'⟩, hs', _⟩ := hrec
          obtain ⟨⟨pre2, mid2, post2, he, hl2, hm2, hf2⟩, hs2, ha2⟩ := setK_flat τ x k off _ a' z' _ τ' x' h hf' e
          have e1 : pre2 = pre := by
            have := congrArg (List.take off) he
            rw [List.append_assoc, List.take_left' (by omega), List.append_assoc, List.take_left' hl2] at this
            exact this.symm
          subst e1
          have he' : (pre' ++ mid' ++ post') ++ post = mid2 ++ post2 := by
            rw [List.append_assoc pre2, List.append_assoc pre2] at he
            exact List.append_cancel_left he
          have hlen : mid2.length = (pre' ++ mid' ++ post').length := by rw [hm2]; simp only [List.length_append]; omega
          obtain ⟨rfl, rfl⟩ := List.append_inj he'.symm hlen
          refine ⟨⟨pre2 ++ pre', mid', post' ++ post2, by simp [List.append_assoc], by rw [List.length_append, hl, hl']; rfl, hm', ?_⟩, hs2, ha2⟩
          simpa [List.append_assoc] using hf2
  | .idx i s :: r, τ, x, us, σ, y, ms, h, hy, hc, τ', x', e => by
    cases τ with
    | arr n t =>
      simp only [setP] at e hc
      cases hb : Nat.beq s t.size with
      | false => rw [hb] at e; cases e
      | true =>
        rw [hb] at e hc
        simp only [cond_true] at e hc
        have hs := Nat.eq_of_beq_eq_true hb
        cases hq : setP r t (x.getD i t.dflt) σ y with
        | mk c o =>
          rw [hq] at e hc
          cases o with
          | none => cases e
          | some sv =>
            obtain ⟨t', z⟩ := sv
            simp only at e hc
            split at e
            · rename_i ht
              subst ht
              simp only [dif_pos] at hc
              cases e
              obtain ⟨h1, h2⟩ := h
              obtain ⟨pre, mid, post, rfl, hl, hm⟩ := flats_get (fun x vs h => flat_length t' x vs h) t'.dflt x us i h2 hc.1
              obtain ⟨⟨pre', mid', post', rfl, hl', hm', hf'⟩, hs', _⟩ := setP_flat r t' _ mid σ y ms hm hy (by rw [hq]; exact hc.2) t' z (by rw [hq])
              obtain ⟨pre2, mid2, post2, he, hl2, hm2, hf2⟩ := flats_set (fun x vs h => flat_length t' x vs h) z _ hf' x _ i h2 hc.1
              have e1 : pre2 = pre := by
                have := congrArg (List.take (i * t'.size)) he
                rw [List.append_assoc, List.take_left' (by omega), List.append_assoc, List.take_left' hl2] at this
                exact this.symm
              subst e1
              have he' : (pre' ++ mid' ++ post') ++ post = mid2 ++ post2 := by
                rw [List.append_assoc pre2, List.append_assoc pre2] at he
                exact List.append_cancel_left he
              have hlen : mid2.length = (pre' ++ mid' ++ post').length := by rw [hm2]; exact (flat_length t' _ _ hm).symm
              obtain ⟨rfl, rfl⟩ := List.append_inj he'.symm hlen
              refine ⟨⟨pre2 ++ pre', mid', post' ++ post2, by simp [List.append_assoc], by rw [List.length_append, hl, hl', hs]; rfl, hm', ⟨by rw [List.length_set]; exact h1, ?_⟩⟩, rfl, rfl⟩
              simpa [List.append_assoc] using hf2
            · cases e
    | _ => simp [setP] at e

/-! ### Loads -/
theorem cell_at {g o : Nat} {c : Array Value} {e : TypeId} {fz : Nat × Nat} (h : w.heap[g]? = some (.cells c e fz)) : w.cell? ⟨g, o, none⟩ = c[o]? := by
  simp [World.cell?, h]
theorem frozen_at {g : Nat} {c : Array Value} {e : TypeId} (h : w.heap[g]? = some (.cells c e (0, 0))) (a : Addr) (ha : a.block = g) : w.frozen? a = false := by
  subst ha
  simp [World.frozen?, h]
theorem cells_at {a : Addr} {c : Array Value} {e : TypeId} {fz : Nat × Nat} {pre us post : List Value} (h : w.heap[a.block]? = some (.cells c e fz)) (hs : a.spot = none) (hc : c.toList = pre ++ us ++ post) (hl : pre.length = a.off) (j : Nat) (v : Value) (hj : us[j]? = some v) :
    w.cell? (a.add j) = some v := by
  have hlt : j < us.length := (List.getElem?_eq_some_iff.1 hj).1
  have h1 : (a.add j) = ⟨a.block, a.off + j, none⟩ := by
    unfold Addr.add
    split
    · rename_i e; subst e; cases a; simp_all
    · rfl
  rw [h1, cell_at h, ← Array.getElem?_toList, hc, List.append_assoc, List.getElem?_append_right (by omega), List.getElem?_append_left (by omega)]
  rw [← hj]; congr 1; omega

theorem run_loadVar (hT : TabOK C P) {t : TypeId} {τ : Ty} {x : τ.D} {us : List Value} (hlay : lay C t τ = true) (hf : Flat I ρ τ x us) {a : Addr} (h : ∀ j v, us[j]? = some v → w.cell? (a.add j) = some v) :
    ∃ v, (loadVar t a).run P w = .ok v w ∧ Val I ρ τ x v := by
  obtain ⟨i, hi, h1, h2⟩ := lay_spec hlay
  have hl := flat_length τ x us hf
  have hag := hT.isAgg hi w
  have hsz := hT.sizeOf hi w
  cases ha : τ.agg with
  | true =>
    refine ⟨.agg us.toArray, ?_, us, hf, by simp [ha]⟩
    have hc := run_loadCells_list (P := P) w a us h
    have hlen : i.size = us.length := by omega
    simp [loadVar, hag, h1, ha, hsz, hlen, hc]
  | false =>
    have hs : τ.size = 1 := by cases τ <;> first | rfl | (simp [Ty.agg] at ha)
    rw [hs] at hl
    obtain ⟨v, rfl⟩ := List.length_eq_one_iff.1 hl
    refine ⟨v, ?_, [v], hf, by simp [ha]⟩
    have hc := h 0 v rfl
    simp [Addr.add] at hc
    simp [loadVar, hag, h1, ha, run_load, hc]

theorem imm_cells (hinv : Inv B I ρ H w) {a : Addr} {us : List Value} (h : Imm I a us) (hs : a.spot = none) (j : Nat) (v : Value) (hj : us[j]? = some v) : w.cell? (a.add j) = some v := by
  obtain ⟨c, e, fz, pre, post, h1, h2, h3⟩ := h
  exact cells_at (hinv.imm _ _ h1) hs h2 h3 j v hj

theorem getH_flat (hinv : Inv B I ρ H w) {b : Nat} {o : HObj} (ho : H[b]? = some o) {p : List PE} (hc : AllP (getH p o).1) {σ : Ty} {y : σ.D} (e : (getH p o).2 = .v σ y) :
    ∃ g c s mid, ρ b = .blk g c s ∧ Flat I ρ σ y mid ∧ ∀ j v, mid[j]? = some v → w.cell? ((⟨g, offs p, none⟩ : Addr).add j) = some v := by
  have hr := hinv.own b o ho
  cases o with
  | dead => simp [getH, bad] at e
  | map κ τ es => simp [getH, bad] at e
  | var τ x t =>
    obtain ⟨g, c, s, us, h1, h2, h3⟩ := hr
    obtain ⟨pre, mid, post, rfl, hl, hm⟩ := getP_flat p τ x us h3 hc σ y e
    exact ⟨g, c, s, mid, h1, hm, fun j v hj => cells_at (a := ⟨g, offs p, none⟩) (pre := pre) (post := post) h2 rfl (by simp) hl j v hj⟩
  | row τ xs t =>
    cases p with
    | nil => simp [getH, bad] at e
    | cons q r =>
      cases q with
      | fld k off => simp [getH, bad] at e
      | idx i s =>
        simp only [getH] at e hc
        cases hb : Nat.beq s τ.size with
        | false => rw [hb] at e; simp [bad] at e
        | true =>
          rw [hb] at e hc
          simp only [cond_true] at e hc
          have hs := Nat.eq_of_beq_eq_true hb
          rcases hr with ⟨_, rfl⟩ | ⟨g, c, us, spare, h1, h2, h3, h4, h5⟩
          · simp [AllP] at hc
          · obtain ⟨pre, mid, post, rfl, hl, hm⟩ := flats_get (fun x vs h => flat_length τ x vs h) τ.dflt xs us i h5 hc.1
            obtain ⟨pre', mid', post', rfl, hl', hm'⟩ := getP_flat r τ _ mid hm hc.2 σ y e
            refine ⟨g, c, _, mid', h1, hm', fun j v hj => cells_at (a := ⟨g, offs (.idx i s :: r), none⟩) (pre := pre ++ pre') (post := post' ++ post ++ spare) h2 rfl (by simp [List.append_assoc]) ?_ j v hj⟩
            rw [List.length_append, hl, hl', hs]; rfl

theorem layPV_ok {t : TypeId} {q : PV} (h : AllP (layPV C t q).1) : AllP q.1 ∧ ∃ τ x, q.2 = .v τ x ∧ lay C t τ = true ∧ layPV C t q = q := by
  unfold layPV at h ⊢
  split at h
  · rename_i τ x e
    cases hl : lay C t τ with
    | false => rw [hl] at h; exact h.1.elim
    | true =>
      rw [hl] at h
      refine ⟨h, τ, x, e, hl, ?_⟩
      simp [e, hl]
  · exact h.1.elim

theorem load_ok (hT : TabOK C P) (hinv : Inv B I ρ H w) {x : AV} {v : Value} (h : AVRel I ρ x v) (t : TypeId) : ValOK P I ρ w (Instr.loadAt t v) (loadD C H t x) := by
  unfold loadD
  split
  · rename_i b p
    obtain ⟨us, ⟨v', rfl, hr⟩, hu⟩ := h
    simp [Ty.agg] at hu
    subst hu
    obtain ⟨g, c, s, h1, rfl⟩ := hr
    split
    · rename_i o ho
      intro hc
      obtain ⟨hc', τ, x, e, hl, e2⟩ := layPV_ok hc
      obtain ⟨g', c', s', mid, h1', hm, hcell⟩ := getH_flat hinv ho hc' e
      rw [h1] at h1'
      cases h1'
      obtain ⟨v, hv1, hv2⟩ := run_loadVar hT hl hm hcell
      refine ⟨v, by simpa [Instr.loadAt, Instr.sureAddr] using hv1, ?_⟩
      rw [e2, e]; exact hv2
    · exact bad_ok
  · rename_i τ y
    obtain ⟨us, ⟨hn, a, vs, rfl, hs, hi, hfl⟩, hu⟩ := h
    simp [Ty.agg] at hu
    subst hu
    intro hc
    obtain ⟨hc', τ', x, e, hl, e2⟩ := layPV_ok hc
    cases e
    obtain ⟨v, hv1, hv2⟩ := run_loadVar hT hl hfl (fun j v hj => imm_cells hinv hi hs j v hj)
    refine ⟨v, by simpa [Instr.loadAt, Instr.sureAddr] using hv1, ?_⟩
    rw [e2]; exact hv2
  · exact bad_ok
end
end Go.Proofs.Ytdjdbjcapenjeaa.Dx

/- The other operations that answer a value. -/
namespace Go.Proofs.Ytdjdbjcapenjeaa.Dx
open Go Go.RowKit
set_option linter.unusedVariables false
set_option linter.unusedSimpArgs false
section
variable {B : Base} {H : List HObj} {w : World} {I : Nat → Option Obj} {ρ : Nat → Place} {P : Program} {C : Ctx}

theorem val_int {k : IntKind} {n : Int} {v : Value} : Val I ρ (.int k) n v ↔ v = .int k n := by
  constructor
  · intro h; have := val_one h rfl; simpa [Flat] using this
  · rintro rfl; exact val_mk rfl rfl
theorem val_bool {b : Bool} {v : Value} : Val I ρ .bool b v ↔ v = .bool b := by
  constructor
  · intro h; have := val_one h rfl; simpa [Flat] using this
  · rintro rfl; exact val_mk rfl rfl
theorem val_str {b : ByteArray} {v : Value} : Val I ρ .str b v ↔ v = .string b := by
  constructor
  · intro h; have := val_one h rfl; simpa [Flat] using this
  · rintro rfl; exact val_mk rfl rfl

theorem int_of {k : IntKind} {n : Int} {v : Value} (h : AVRel I ρ (.v (.int k) n) v) : v = .int k n := val_int.1 h
theorem bool_of {b : Bool} {v : Value} (h : AVRel I ρ (.v .bool b) v) : v = .bool b := val_bool.1 h
theorem str_of {b : ByteArray} {v : Value} (h : AVRel I ρ (.v .str b) v) : v = .string b := val_str.1 h
theorem nl_of {v : Value} (h : AVRel I ρ (.v .nl ()) v) : v = .slice none 0 0 := by
  have := val_one (h : Val I ρ .nl () v) rfl
  simpa [Flat] using this
theorem sl_of {τ : Ty} {xs : List τ.D} {v : Value} (h : AVRel I ρ (.v (.sl τ) xs) v) : Flat I ρ (.sl τ) xs [v] := val_one h rfl
theorem ref_of {r : Ref} {v : Value} (h : AVRel I ρ (.v .ref r) v) : RefRel ρ r v := by
  obtain ⟨v', e, hr⟩ := val_one (h : Val I ρ .ref r v) rfl
  cases e
  exact hr
theorem ptr_of {τ : Ty} {x : τ.D} {v : Value} (h : AVRel I ρ (.v (.ptr τ) x) v) : τ.refs = false ∧ ∃ a us, v = .pointer (some a) ∧ a.spot = none ∧ Imm I a us ∧ Flat I ρ τ x us := by
  obtain ⟨h0, a, us, e, h1⟩ := val_one (h : Val I ρ (.ptr τ) x v) rfl
  cases e
  exact ⟨h0, a, us, rfl, h1⟩
theorem ref_mk {r : Ref} {v : Value} (h : RefRel ρ r v) : AVRel I ρ (.v .ref r) v := val_mk rfl ⟨v, rfl, h⟩
theorem tag_of {t : TypeId} {v : Value} (h : AVRel I ρ (.v .tag t) v) : v = .iface t (.agg #[]) := by
  have := val_one (h : Val I ρ .tag t v) rfl
  simpa [Flat] using this
theorem unit_of {v : Value} (h : AVRel I ρ (.v .unit ()) v) : v = .agg #[] := by
  obtain ⟨us, e, hu⟩ := val_agg (h : Val I ρ .unit () v) rfl
  simp only [Flat] at hu
  subst hu; exact e

theorem descT_spec {t : TypeId} {d : TypeDesc} (h : descT C t = d) (hd : d ≠ .invalid) : ∃ i, seek C.ti t = some i ∧ i.desc = d := by
  unfold descT at h
  split at h
  · rename_i i hi; exact ⟨i, hi, h⟩
  · exact absurd h.symm hd
theorem TabOK.under (hT : TabOK C P) {t : TypeId} {d : TypeDesc} (h : descT C t = d) (hd : d ≠ .invalid) (w : World) : (Go.underlying t).run P w = .ok d w := by
  obtain ⟨i, hi, rfl⟩ := descT_spec h hd
  exact hT.underlying hi w
theorem sizeT_pos {t : TypeId} {n : Nat} (h : Nat.beq (sizeT C t) n = true) (hn : n ≠ 0) : ∃ i, seek C.ti t = some i ∧ i.size = n := by
  unfold sizeT at h
  split at h
  · rename_i i hi; exact ⟨i, hi, Nat.eq_of_beq_eq_true h⟩
  · exact absurd (Nat.eq_of_beq_eq_true h).symm hn

theorem addOff_eq (o n : Nat) : addOff o n = o + n := by cases o <;> simp [addOff]

theorem ne0_of {n : Nat} (h : (!Nat.beq n 0) = true) : n ≠ 0 := by
  intro e; subst e; simp at h

theorem intD_of {x : AV} {n : Int} {v : Value} (h : intD x = some n) (hr : AVRel I ρ x v) : ∃ k, v = .int k n := by
  unfold intD at h
  split at h
  · rename_i k m
    cases h
    exact ⟨k, int_of hr⟩
  · cases h
theorem indexAddr_ok (hT : TabOK C P) (hinv : Inv B I ρ H w) {x i : AV} {vx vi : Value} (hx : AVRel I ρ x vx) (hi : AVRel I ρ i vi) (t : TypeId) : ValOK P I ρ w (Instr.indexAt t vx vi) (indexAddrD C H t x i) := by
  unfold indexAddrD
  split
  · rename_i e τ xs n hd hn
    cases hb : (Nat.beq (sizeT C e) τ.size && !Nat.beq τ.size 0) with
    | false => exact bad_ok
    | true =>
      rw [Bool.and_eq_true] at hb
      rintro ⟨h0, h1, _⟩
      obtain ⟨j, hj, hsz⟩ := sizeT_pos hb.1 (ne0_of hb.2)
      obtain ⟨k, rfl⟩ := intD_of hn hi
      obtain ⟨hr, A, c, e1, h2, h3⟩ := sl_of hx
      cases e1
      have hlt : n.toNat < xs.length := by omega
      rcases h3 with rfl | ⟨a, us, rfl, hs, him, hfl⟩
      · simp at hlt
      · obtain ⟨pre, mid, post, e2, hl, hm⟩ := flats_get (fun x vs h => flat_length τ x vs h) τ.dflt xs us n.toNat hfl hlt
        have hu := hT.under hd (by simp) w
        have hsz' := hT.sizeOf hj w
        have hc : (0 : Int) ≤ n ∧ n < (xs.length : Int) := ⟨h0, h1⟩
        refine ⟨.pointer (some (a.add (n.toNat * τ.size))), ?_, val_mk rfl ⟨hr, _, mid, rfl, add_spot hs _, ?_, hm⟩⟩
        · simp [Instr.indexAt, asIntOf, hu, hsz', hc.1, hc.2, hsz]
        · rw [← hl]; exact him.part hs e2
  · rename_i e b off len n hd hn
    split
    · rename_i τ ys ty hb0
      cases hb : (Nat.beq (sizeT C e) τ.size && !Nat.beq τ.size 0) with
      | false => exact bad_ok
      | true =>
        rw [Bool.and_eq_true] at hb
        rintro ⟨h0, h1, _⟩
        obtain ⟨j, hj, hsz⟩ := sizeT_pos hb.1 (ne0_of hb.2)
        obtain ⟨k, rfl⟩ := intD_of hn hi
        have hr := ref_of hx
        have hown := hinv.own b _ hb0
        have hu := hT.under hd (by simp) w
        have hsz' := hT.sizeOf hj w
        simp only [RefRel] at hr
        rcases hown with ⟨h3, _⟩ | ⟨g, c, us, spare, h3, _⟩
        · rw [h3] at hr
          obtain ⟨_, rfl, _⟩ := hr
          omega
        · rw [h3] at hr
          obtain ⟨a, h4, rfl, h5, h6, h7⟩ := hr
          refine ⟨.pointer (some (a.add (n.toNat * τ.size))), ?_, ref_mk ⟨g, c, τ.size, h3, ?_⟩⟩
          · simp [Instr.indexAt, asIntOf, hu, hsz', h0, h1, hsz]
          · have ho : a.off = off * τ.size := h7 (by omega)
            rw [addOff_eq]
            simp only [offs, PE.off, Nat.add_zero, Nat.add_mul]
            congr 2
            cases a
            simp only at h5 h6 ho
            subst h5 h6 ho
            unfold Addr.add
            split
            · rename_i e; rw [e]; rfl
            · rfl
    · exact bad_ok
  · rename_i l e b p n hd hn
    cases hz : Nat.beq (sizeT C e) 0 with
    | true => exact bad_ok
    | false =>
      rintro ⟨h0, h1, _⟩
      obtain ⟨k, rfl⟩ := intD_of hn hi
      obtain ⟨g, c, s, h2, rfl⟩ := ref_of hx
      have hu := hT.under hd (by simp) w
      unfold sizeT at hz
      split at hz
      · rename_i j hj
        have hsz' := hT.sizeOf hj w
        have hszT : sizeT C e = j.size := by unfold sizeT; rw [hj]
        refine ⟨.pointer (some ((⟨g, offs p, none⟩ : Addr).add (n.toNat * j.size))), ?_, ref_mk ⟨g, c, s, h2, ?_⟩⟩
        · simp [Instr.indexAt, Instr.sureAddr, asIntOf, hu, hsz', h0, h1]
        · rw [offs_append, hszT]
          simp only [PE.off]
          unfold Addr.add
          split
          · rename_i e; rw [e]; rfl
          · rfl
      · simp at hz
  · rename_i l e m τ xs n hd hn
    cases hb : (Nat.beq (sizeT C e) τ.size && Nat.beq l m && !Nat.beq τ.size 0) with
    | false => exact bad_ok
    | true =>
      simp only [Bool.and_eq_true] at hb
      rintro ⟨h0, h1, _⟩
      obtain ⟨j, hj, hsz⟩ := sizeT_pos hb.1.1 (ne0_of hb.2)
      have hlm := Nat.eq_of_beq_eq_true hb.1.2
      obtain ⟨k, rfl⟩ := intD_of hn hi
      obtain ⟨hr, a, us, rfl, hs, him, ⟨hlen, hfl⟩⟩ := ptr_of hx
      have hlt : n.toNat < xs.length := by omega
      obtain ⟨pre, mid, post, e2, hl, hm⟩ := flats_get (fun x vs h => flat_length τ x vs h) τ.dflt xs us n.toNat hfl hlt
      have hu := hT.under hd (by simp) w
      have hsz' := hT.sizeOf hj w
      refine ⟨.pointer (some (a.add (n.toNat * τ.size))), ?_, val_mk rfl ⟨hr, _, mid, rfl, add_spot hs _, ?_, hm⟩⟩
      · simp [Instr.indexAt, Instr.sureAddr, asIntOf, hu, hsz', h0, h1, hsz]
      · rw [← hl]; exact him.part hs e2
  · exact bad_ok

theorem len_ok (hT : TabOK C P) {x : AV} {v : Value} (hx : AVRel I ρ x v) (t ty : TypeId) : ValOK P I ρ w (Builtin.len_ #[t] ty #[v]) (lenD C t x) := by
  unfold lenD
  split
  · rename_i s hd
    intro _
    cases str_of hx
    have hu := hT.under hd (by simp) w
    exact ⟨.int .i64 s.size, by simp [Builtin.len_, hu, goInt], val_int.2 rfl⟩
  · rename_i e hd
    intro _
    cases nl_of hx
    have hu := hT.under hd (by simp) w
    exact ⟨.int .i64 0, by simp [Builtin.len_, hu, goInt], val_int.2 rfl⟩
  · rename_i e τ xs hd
    intro _
    obtain ⟨_, A, c, e1, _⟩ := sl_of hx
    cases e1
    have hu := hT.under hd (by simp) w
    exact ⟨.int .i64 xs.length, by simp [Builtin.len_, hu, goInt], val_int.2 rfl⟩
  · rename_i e b off len hd
    intro _
    have hr := ref_of hx
    have hu := hT.under hd (by simp) w
    simp only [RefRel] at hr
    split at hr
    · exact hr.elim
    · obtain ⟨_, rfl, rfl⟩ := hr
      exact ⟨.int .i64 0, by simp [Builtin.len_, hu, goInt], val_int.2 rfl⟩
    · obtain ⟨a, _, rfl, _⟩ := hr
      exact ⟨.int .i64 len, by simp [Builtin.len_, hu, goInt], val_int.2 rfl⟩
  · exact bad_ok

theorem flats_split {α : Type} {R : α → List Value → Prop} {s : Nat} (hR : ∀ x vs, R x vs → vs.length = s) : ∀ (n : Nat) (xs : List α) (us : List Value), Flats R xs us → ∃ u v, us = u ++ v ∧ Flats R (xs.take n) u ∧ Flats R (xs.drop n) v ∧ (n ≤ xs.length → u.length = n * s)
  | 0, xs, us, h => ⟨[], us, by simp, by simp [Flats], by simpa using h, by simp⟩
  | n + 1, [], us, h => ⟨us, [], by simp, by simpa using h, by simp [Flats], by simp⟩
  | n + 1, x :: xs, us, h => by
    obtain ⟨u, v, rfl, h1, h2⟩ := h
    obtain ⟨u', v', rfl, h3, h4, h5⟩ := flats_split hR n xs v h2
    refine ⟨u ++ u', v', by simp [List.append_assoc], ⟨u, u', rfl, h1, h3⟩, h4, fun hn => ?_⟩
    rw [List.length_append, hR _ _ h1, h5 (by simpa using hn), Nat.succ_mul, Nat.add_comm]

/-- A cut of a slice that stays as it is. -/
theorem sl_cut {τ : Ty} {xs : List τ.D} {A : Option Addr} {c : Nat} (h : Flat I ρ (.sl τ) xs [.slice A xs.length c]) {l hh : Nat} (h1 : l ≤ hh) (h2 : hh ≤ xs.length) (hc : xs.length ≤ c) :
    Flat I ρ (.sl τ) ((xs.take hh).drop l) [.slice (if c = l then A else A.map (·.add (l * τ.size))) (hh - l) (c - l)] := by
  obtain ⟨hr, A', c', e, h3, h4⟩ := h
  cases e
  have hlen : ((xs.take hh).drop l).length = hh - l := by simp; omega
  refine ⟨hr, (if c = l then A else A.map (·.add (l * τ.size))), c - l, ?_, ?_, ?_⟩
  · rw [hlen]
  · rw [hlen]; omega
  · by_cases hlh : l = hh
    · left
      exact List.eq_nil_of_length_eq_zero (by omega)
    · rcases h4 with rfl | ⟨a, us, rfl, hs, him, hfl⟩
      · simp at h2; omega
      · right
        rw [if_neg (by omega)]
        obtain ⟨u, v, rfl, h5, h6, h7⟩ := flats_split (fun x vs h => flat_length τ x vs h) hh xs us hfl
        obtain ⟨u1, u2, rfl, h8, h9, h10⟩ := flats_split (fun x vs h => flat_length τ x vs h) l (xs.take hh) u h5
        refine ⟨a.add (l * τ.size), u2, rfl, add_spot hs _, ?_, h9⟩
        rw [← h10 (by simp; omega)]
        exact him.part hs rfl

theorem sliceBounds_ok {s : Bool} {len cap : Nat} (w : World) (lo hi : Option Value) {l h : Nat} (hl : lo = none ∧ l = 0 ∨ ∃ k n, lo = some (.int k n) ∧ 0 ≤ n ∧ n.toNat = l) (hh : hi = none ∧ h = len ∨ ∃ k n, hi = some (.int k n) ∧ 0 ≤ n ∧ n.toNat = h)
    (h1 : l ≤ h) (h2 : h ≤ cap) : (Instr.sliceBounds s len cap lo hi none).run P w = .ok (l, h, cap) w := by
  rcases hl with ⟨rfl, rfl⟩ | ⟨k, n, rfl, hn, rfl⟩ <;> rcases hh with ⟨rfl, rfl⟩ | ⟨k', n', rfl, hn', rfl⟩
  · simp [Instr.sliceBounds]
  · have : n' ≤ (cap : Int) := by omega
    simp [Instr.sliceBounds, Instr.sliceBound, asIntOf, hn', this]
  · have : n ≤ (h : Int) := by omega
    simp [Instr.sliceBounds, Instr.sliceBound, asIntOf, hn, this]
  · have h3 : n' ≤ (cap : Int) := by omega
    have h4 : ¬ (max n' 0 < n) := by omega
    simp [Instr.sliceBounds, Instr.sliceBound, asIntOf, hn, hn', h3]
    omega
end
end Go.Proofs.Ytdjdbjcapenjeaa.Dx

/- The rest of the operations that answer a value. -/
namespace Go.Proofs.Ytdjdbjcapenjeaa.Dx
open Go Go.RowKit
set_option linter.unusedVariables false
set_option linter.unusedSimpArgs false
section
variable {B : Base} {H : List HObj} {w : World} {I : Nat → Option Obj} {ρ : Nat → Place} {P : Program} {C : Ctx}

def OptRel (I : Nat → Option Obj) (ρ : Nat → Place) : Option AV → Option Value → Prop
  | none, none => True
  | some x, some v => AVRel I ρ x v
  | _, _ => False

theorem boundD_of {x : Option AV} {v : Option Value} {r : Option Int} (h : boundD x = some r) (hr : OptRel I ρ x v) : (r = none ∧ v = none) ∨ ∃ n k, r = some n ∧ v = some (.int k n) := by
  unfold boundD at h
  split at h
  · cases h
    cases v with
    | none => exact .inl ⟨rfl, rfl⟩
    | some v => exact hr.elim
  · rename_i k n
    cases h
    cases v with
    | none => exact hr.elim
    | some v => cases int_of hr; exact .inr ⟨n, k, rfl, rfl⟩
  · cases h

theorem run_slice_slice (hT : TabOK C P) {t e : TypeId} (hd : descT C t = .slice e) {a : Option Addr} {len cap l h : Nat} {lo hi : Option Value} {sz : Nat} (hsz : Nat.beq (sizeT C e) sz = true) (hlk : ∃ i, seek C.ti e = some i)
    (hb : (Instr.sliceBounds true len cap lo hi none).run P w = .ok (l, h, cap) w) :
    (Instr.sliceAt t (.slice a len cap) lo hi none).run P w = .ok (.slice (if cap = l then a else a.map (·.add (l * sz))) (h - l) (cap - l)) w := by
  have hu := hT.under hd (by simp) w
  obtain ⟨i, hi⟩ := hlk
  have hs := hT.sizeOf hi w
  have : i.size = sz := by
    unfold sizeT at hsz
    rw [hi] at hsz
    exact Nat.eq_of_beq_eq_true hsz
  simp [Instr.sliceAt, hu, Instr.slice, hb, hs, this]

theorem run_slice_string (hT : TabOK C P) {t : TypeId} (hd : descT C t = .string) {s : ByteArray} {l h : Nat} {lo hi : Option Value}
    (hb : (Instr.sliceBounds false s.size s.size lo hi none).run P w = .ok (l, h, s.size) w) :
    (Instr.sliceAt t (.string s) lo hi none).run P w = .ok (.string (s.extract l h)) w := by
  have hu := hT.under hd (by simp) w
  simp [Instr.sliceAt, hu, Instr.slice, hb]

theorem slice_ok (hT : TabOK C P) (hinv : Inv B I ρ H w) {x : AV} {v : Value} (hx : AVRel I ρ x v) {lo hi : Option AV} {vlo vhi : Option Value} (hlo : OptRel I ρ lo vlo) (hhi : OptRel I ρ hi vhi) (t : TypeId) :
    ValOK P I ρ w (Instr.sliceAt t v vlo vhi none) (sliceD C H t x lo hi) := by
  unfold sliceD
  split
  · rename_i lo' hi' hl hh
    have bl := boundD_of hl hlo
    have bh := boundD_of hh hhi
    clear hl hh hlo hhi
    split
    · rename_i s hd
      cases str_of hx
      rcases bl with ⟨rfl, rfl⟩ | ⟨l, kl, rfl, rfl⟩ <;> rcases bh with ⟨rfl, rfl⟩ | ⟨h, kh, rfl, rfl⟩
      · intro _
        exact ⟨_, run_slice_string hT hd (sliceBounds_ok w _ _ (.inl ⟨rfl, rfl⟩) (.inl ⟨rfl, rfl⟩) (Nat.zero_le _) (Nat.le_refl _)), val_str.2 rfl⟩
      · rintro ⟨h1, h2, _⟩
        exact ⟨_, run_slice_string hT hd (sliceBounds_ok w _ _ (.inl ⟨rfl, rfl⟩) (.inr ⟨kh, h, rfl, h1, rfl⟩) (Nat.zero_le _) (by omega)), val_str.2 rfl⟩
      · rintro ⟨h1, h2, _⟩
        exact ⟨_, run_slice_string hT hd (sliceBounds_ok w _ _ (.inr ⟨kl, l, rfl, h1, rfl⟩) (.inl ⟨rfl, rfl⟩) (by omega) (Nat.le_refl _)), val_str.2 rfl⟩
      · rintro ⟨h1, h2, h3, _⟩
        exact ⟨_, run_slice_string hT hd (sliceBounds_ok w _ _ (.inr ⟨kl, l, rfl, h1, rfl⟩) (.inr ⟨kh, h, rfl, by omega, rfl⟩) (by omega) (by omega)), val_str.2 rfl⟩
    · rename_i e τ xs hd
      cases hb : Nat.beq (sizeT C e) τ.size && !Nat.beq τ.size 0 with
      | false => exact bad_ok
      | true =>
        rw [Bool.and_eq_true] at hb
        obtain ⟨j, hj, _⟩ := sizeT_pos hb.1 (ne0_of hb.2)
        obtain ⟨hr, A, c, e1, h2, h3⟩ := sl_of hx
        cases e1
        have hf : Flat I ρ (.sl τ) xs [.slice A xs.length c] := ⟨hr, A, c, rfl, h2, h3⟩
        rcases bl with ⟨rfl, rfl⟩ | ⟨l, kl, rfl, rfl⟩ <;> rcases bh with ⟨rfl, rfl⟩ | ⟨h, kh, rfl, rfl⟩
        · intro _
          have := sl_cut hf (Nat.zero_le _) (Nat.le_refl _) h2
          refine ⟨_, run_slice_slice hT hd hb.1 ⟨j, hj⟩ (sliceBounds_ok w _ _ (.inl ⟨rfl, rfl⟩) (.inl ⟨rfl, rfl⟩) (Nat.zero_le _) h2), val_mk rfl ?_⟩
          rw [List.take_length, List.drop_zero] at this
          exact this
        · rintro ⟨h1, h4, _⟩
          have := sl_cut hf (Nat.zero_le h.toNat) (by omega) h2
          refine ⟨_, run_slice_slice hT hd hb.1 ⟨j, hj⟩ (sliceBounds_ok w _ _ (.inl ⟨rfl, rfl⟩) (.inr ⟨kh, h, rfl, h1, rfl⟩) (Nat.zero_le _) (by omega)), val_mk rfl ?_⟩
          rw [List.drop_zero] at this
          exact this
        · rintro ⟨h1, h4, _⟩
          have := sl_cut hf (l := l.toNat) (by omega) (Nat.le_refl _) h2
          refine ⟨_, run_slice_slice hT hd hb.1 ⟨j, hj⟩ (sliceBounds_ok w _ _ (.inr ⟨kl, l, rfl, h1, rfl⟩) (.inl ⟨rfl, rfl⟩) (by omega) h2), val_mk rfl ?_⟩
          rw [List.take_length] at this
          exact this
        · rintro ⟨h1, h4, h5, _⟩
          have := sl_cut hf (l := l.toNat) (hh := h.toNat) (by omega) (by omega) h2
          exact ⟨_, run_slice_slice hT hd hb.1 ⟨j, hj⟩ (sliceBounds_ok w _ _ (.inr ⟨kl, l, rfl, h1, rfl⟩) (.inr ⟨kh, h, rfl, by omega, rfl⟩) (by omega) (by omega)), val_mk rfl this⟩
    · rename_i e b off len hd
      split
      · rename_i τ ys ty hb0
        cases hb : Nat.beq (sizeT C e) τ.size && !Nat.beq τ.size 0 with
        | false => exact bad_ok
        | true =>
          rw [Bool.and_eq_true] at hb
          obtain ⟨j, hj, _⟩ := sizeT_pos hb.1 (ne0_of hb.2)
          have hr := ref_of hx
          -- a cut of a row of one's own
          have key : ∀ (l h : Nat) (lo hi : Option Value), (lo = none ∧ l = 0 ∨ ∃ k n, lo = some (.int k n) ∧ 0 ≤ n ∧ n.toNat = l) → (hi = none ∧ h = len ∨ ∃ k n, hi = some (.int k n) ∧ 0 ≤ n ∧ n.toNat = h) → l ≤ h → h ≤ len →
              ∃ u, (Instr.sliceAt t v lo hi none).run P w = .ok u w ∧ RefRel ρ (.sl b (off + l) (h - l)) u := by
            intro l h lo hi hlo hhi h1 h2
            simp only [RefRel] at hr
            split at hr
            · exact hr.elim
            · rename_i hn
              obtain ⟨h3, h4, rfl⟩ := hr
              subst h4
              have := run_slice_slice (P := P) (w := w) hT hd (a := none) (cap := 0) hb.1 ⟨j, hj⟩ (sliceBounds_ok w lo hi hlo hhi h1 h2)
              refine ⟨_, this, ?_⟩
              have e1 : l = 0 := by omega
              have e2 : h = 0 := by omega
              subst e1 e2
              simp [RefRel, hn, h3]
            · rename_i g c s hn
              obtain ⟨a, h3, rfl, h5, h6, h7⟩ := hr
              have hsz : s = τ.size := by
                rcases hinv.own b _ hb0 with ⟨h8, _⟩ | ⟨g', c', us, sp, h8, _⟩
                · rw [hn] at h8; cases h8
                · rw [hn] at h8; cases h8; rfl
              have := run_slice_slice (P := P) (w := w) hT hd (a := some a) (cap := c - off) hb.1 ⟨j, hj⟩ (sliceBounds_ok w lo hi hlo hhi h1 (by omega))
              refine ⟨_, this, ?_⟩
              simp only [RefRel, hn]
              by_cases hc : c - off = l
              · rw [if_pos hc]
                refine ⟨a, by omega, ?_, h5, h6, fun h => by omega⟩
                congr 1
                omega
              · rw [if_neg hc]
                refine ⟨a.add (l * τ.size), by omega, ?_, by rw [add_block]; exact h5, add_spot h6 _, fun h => ?_⟩
                · simp only [Option.map_some]
                  congr 1
                  omega
                · rw [add_off, h7 (by omega), hsz, Nat.add_mul]
          rcases bl with ⟨rfl, rfl⟩ | ⟨l, kl, rfl, rfl⟩ <;> rcases bh with ⟨rfl, rfl⟩ | ⟨h, kh, rfl, rfl⟩
          · intro _
            obtain ⟨u, h1, h2⟩ := key 0 len none none (.inl ⟨rfl, rfl⟩) (.inl ⟨rfl, rfl⟩) (Nat.zero_le _) (Nat.le_refl _)
            exact ⟨u, h1, ref_mk h2⟩
          · rintro ⟨h1, h4, _⟩
            obtain ⟨u, h1, h2⟩ := key 0 h.toNat none _ (.inl ⟨rfl, rfl⟩) (.inr ⟨kh, h, rfl, h1, rfl⟩) (Nat.zero_le _) (by omega)
            exact ⟨u, h1, ref_mk h2⟩
          · rintro ⟨h1, h4, _⟩
            obtain ⟨u, h1, h2⟩ := key l.toNat len _ none (.inr ⟨kl, l, rfl, h1, rfl⟩) (.inl ⟨rfl, rfl⟩) (by omega) (Nat.le_refl _)
            refine ⟨u, h1, ref_mk ?_⟩
            rw [addOff_eq]; exact h2
          · rintro ⟨h1, h4, h5, _⟩
            obtain ⟨u, h1, h2⟩ := key l.toNat h.toNat _ _ (.inr ⟨kl, l, rfl, h1, rfl⟩) (.inr ⟨kh, h, rfl, by omega, rfl⟩) (by omega) (by omega)
            refine ⟨u, h1, ref_mk ?_⟩
            rw [addOff_eq]; exact h2
      · exact bad_ok
    · exact bad_ok
  · exact bad_ok

theorem byteAt_get {s : ByteArray} {i : Nat} (h : i < s.size) : s[i]? = some s[i] ∧ byteAt s i = (s[i].toNat : Int) := by
  have h' : i < s.data.toList.length := by simpa using h
  refine ⟨by simp [h], ?_⟩
  unfold byteAt
  rw [List.getD_eq_getElem?_getD, List.getElem?_eq_getElem h']
  rfl

theorem index_ok (hT : TabOK C P) {x i : AV} {vx vi : Value} (hx : AVRel I ρ x vx) (hi : AVRel I ρ i vi) (t : TypeId) : ValOK P I ρ w (Instr.index t vx vi) (indexD C t x i) := by
  unfold indexD
  split
  · rename_i s n hd hn
    rintro ⟨h0, h1, _⟩
    obtain ⟨k, rfl⟩ := intD_of hn hi
    cases str_of hx
    have hu := hT.under hd (by simp) w
    have hlt : n.toNat < s.size := by omega
    obtain ⟨h2, h3⟩ := byteAt_get hlt
    refine ⟨.int .u8 (byteAt s n.toNat), ?_, val_int.2 rfl⟩
    simp only [Instr.index, asIntOf, Sem.run_bind, Sem.run_pure, Result.andThen_ok, hu, h0, if_true, h2, h3]
  · rename_i l e m τ xs n hd hn
    cases hb : (lay C e τ && Nat.beq l m) with
    | false => exact bad_ok
    | true =>
      rw [Bool.and_eq_true] at hb
      rintro ⟨h0, h1, _⟩
      obtain ⟨k, rfl⟩ := intD_of hn hi
      obtain ⟨j, hj, ha, hs⟩ := lay_spec hb.1
      have hlm := Nat.eq_of_beq_eq_true hb.2
      obtain ⟨us, rfl, ⟨hlen, hfl⟩⟩ := val_agg (hx : Val I ρ (.arr m τ) xs vx) rfl
      have hlt : n.toNat < xs.length := by omega
      obtain ⟨pre, mid, post, rfl, hl, hm⟩ := flats_get (fun x vs h => flat_length τ x vs h) τ.dflt xs us n.toNat hfl hlt
      have hu := hT.under hd (by simp) w
      have hsz := hT.sizeOf hj w
      have hag := hT.isAgg hj w
      have hml := flat_length τ _ mid hm
      cases hta : τ.agg with
      | true =>
        refine ⟨.agg mid.toArray, ?_, mid, hm, by simp [hta]⟩
        have hext : (pre ++ mid ++ post).toArray.extract (n.toNat * τ.size) (n.toNat * τ.size + τ.size) = mid.toArray := by
          apply Array.ext'
          simp only [Array.toList_extract, List.extract]
          rw [← hl, List.append_assoc, List.drop_left, show pre.length + τ.size - pre.length = τ.size by omega, List.take_left' hml]
        simp only [Instr.index, asIntOf, Sem.run_bind, Sem.run_pure, Result.andThen_ok, hu, h0, h1, and_self, if_true, hsz, part, hag, ha, hta, hs, hext]
      | false =>
        have h1s : τ.size = 1 := by cases τ <;> first | rfl | (simp [Ty.agg] at hta)
        rw [h1s] at hml hl
        obtain ⟨v, rfl⟩ := List.length_eq_one_iff.1 hml
        refine ⟨v, ?_, [v], hm, by simp [hta]⟩
        have hget : (pre ++ [v] ++ post).toArray[n.toNat * 1]? = some v := by
          rw [List.getElem?_toArray, List.append_assoc, List.getElem?_append_right (by omega), hl]
          simp
        simp only [Instr.index, asIntOf, Sem.run_bind, Sem.run_pure, Result.andThen_ok, hu, h0, h1, and_self, if_true, hsz, part, hag, ha, hta, hs, h1s, hget, Bool.false_eq_true, if_false]
  · exact bad_ok

theorem cast_val {τ σ : Ty} (h : σ = τ) (y : σ.D) : (AV.v τ (h ▸ y)) = .v σ y := by subst h; rfl

theorem pick_ok {c a b : AV} {vc va vb : Value} (hc : AVRel I ρ c vc) (ha : AVRel I ρ a va) (hb : AVRel I ρ b vb) : ValOK P I ρ w (do pure (if ← asBool vc then va else vb)) (pickD c a b) := by
  unfold pickD
  split
  · rename_i t
    cases bool_of hc
    have hrun : (do pure (if ← asBool (.bool t) then va else vb) : Sem Value).run P w = .ok (if t then va else vb) w := by simp [asBool]
    split
    · rename_i τ x σ y
      split
      · rename_i h
        intro _
        refine ⟨_, hrun, ?_⟩
        subst h
        cases t
        · exact hb
        · exact ha
      · intro _
        refine ⟨_, hrun, ?_⟩
        cases t
        · exact hb
        · exact ha
    · intro _
      refine ⟨_, hrun, ?_⟩
      cases t
      · exact hb
      · exact ha
  · exact bad_ok
end
end Go.Proofs.Ytdjdbjcapenjeaa.Dx

/- Operators; and what makes a new block. -/
namespace Go.Proofs.Ytdjdbjcapenjeaa.Dx
open Go Go.RowKit
set_option linter.unusedVariables false
set_option linter.unusedSimpArgs false
section
variable {B : Base} {H : List HObj} {w : World} {I : Nat → Option Obj} {ρ : Nat → Place} {P : Program} {C : Ctx}

theorem eqGuard_int (op : BinOp) (t : TypeId) (x y : Operand) (k k' : IntKind) (a b : Int) (w : World) : (eqGuard op t x y (.int k a) (.int k' b)).run P w = .ok () w := by
  unfold eqGuard; split <;> rfl
theorem eqGuard_bool (op : BinOp) (t : TypeId) (x y : Operand) (a b : Bool) (w : World) : (eqGuard op t x y (.bool a) (.bool b)).run P w = .ok () w := by
  unfold eqGuard; split <;> rfl
theorem eqGuard_str (op : BinOp) (t : TypeId) (x y : Operand) (a b : ByteArray) (w : World) : (eqGuard op t x y (.string a) (.string b)).run P w = .ok () w := by
  unfold eqGuard; split <;> rfl

theorem equal_bool (hT : TabOK C P) {t : TypeId} (hd : descT C t = .bool) (a b : Bool) (w : World) : (Op.equal t (.bool a) (.bool b)).run P w = .ok (a == b) w := by
  have hu := hT.under hd (by simp) w
  unfold Op.equal Op.maxDepth
  rw [show (10000 : Nat) = 9999 + 1 from rfl]
  unfold Op.equalIn
  rw [Sem.run_bind, hu]
  rfl

theorem binI_ok {k k' : IntKind} {a b : Int} (op : BinOp) (t : TypeId) (w : World) : ValOK P I ρ w (binOp op t (.int k a) (.int k' b)) (binI k k' a b op) := by
  have hk : ∀ {q : PV} {sem : Sem Value}, (k = k' → ValOK P I ρ w sem q) → ValOK P I ρ w sem (cond (k == k') q bad) := by
    intro q sem h
    cases hh : (k == k') with
    | false => exact bad_ok
    | true => exact h (by simpa using hh)
  cases op <;> simp only [binI]
  case add => exact hk fun e _ => ⟨_, by subst e; simp [binOp, Op.intArith], val_int.2 rfl⟩
  case sub => exact hk fun e _ => ⟨_, by subst e; simp [binOp, Op.intArith], val_int.2 rfl⟩
  case mul => exact hk fun e _ => ⟨_, by subst e; simp [binOp, Op.intArith], val_int.2 rfl⟩
  case quo => exact hk fun e h => ⟨_, by subst e; simp [binOp, Op.intDiv, h.1], val_int.2 rfl⟩
  case rem => exact hk fun e h => ⟨_, by subst e; simp [binOp, Op.intDiv, h.1], val_int.2 rfl⟩
  case and => exact hk fun e _ => ⟨_, by subst e; simp [binOp, Op.intBits], val_int.2 rfl⟩
  case or => exact hk fun e _ => ⟨_, by subst e; simp [binOp, Op.intBits], val_int.2 rfl⟩
  case xor => exact hk fun e _ => ⟨_, by subst e; simp [binOp, Op.intBits], val_int.2 rfl⟩
  case andNot => exact hk fun e _ => ⟨_, by subst e; simp [binOp, Op.intBits], val_int.2 rfl⟩
  case shl => exact fun h => ⟨_, by simp [binOp, Op.shift, show ¬ b < 0 from Int.not_lt.2 h.1], val_int.2 rfl⟩
  case shr => exact fun h => ⟨_, by simp [binOp, Op.shift, show ¬ b < 0 from Int.not_lt.2 h.1], val_int.2 rfl⟩
  all_goals first
    | (simp only [cmpD]; exact hk fun e _ => ⟨_, by subst e; simp [binOp, Op.intCmp]; rfl, val_bool.2 rfl⟩)
    | (simp only [cmpD]; exact hk fun e _ => ⟨_, by subst e; simp [binOp, Op.intCmp], val_bool.2 rfl⟩)
    | exact bad_ok

theorem bin_ok (hT : TabOK C P) {x y : AV} {vx vy : Value} (hx : AVRel I ρ x vx) (hy : AVRel I ρ y vy) (op : BinOp) (t : TypeId) (ox oy : Operand) :
    ValOK P I ρ w (do eqGuard op t ox oy vx vy; binOp op t vx vy) (binD C t op x y) := by
  unfold binD
  split
  · rename_i k a k' b
    cases int_of hx
    cases int_of hy
    intro h
    obtain ⟨v, h1, h2⟩ := binI_ok (P := P) (I := I) (ρ := ρ) op t w h
    exact ⟨v, by simp [eqGuard_int, h1], h2⟩
  · rename_i a b
    cases bool_of hx
    cases bool_of hy
    split
    · split
      · rename_i hd
        intro _
        exact ⟨_, by simp [eqGuard_bool, binOp, equal_bool hT hd], val_bool.2 rfl⟩
      · exact bad_ok
    · split
      · rename_i hd
        intro _
        exact ⟨_, by simp [eqGuard_bool, binOp, equal_bool hT hd], val_bool.2 rfl⟩
      · exact bad_ok
    · exact bad_ok
  · rename_i a b
    cases str_of hx
    cases str_of hy
    split
    · rintro ⟨h, _⟩
      have h' : ¬ (((a.size + b.size : Nat) : Int) > IntKind.i64.max) := by
        have : IntKind.i64.max = 9223372036854775807 := by decide
        omega
      refine ⟨.string (a ++ b), ?_, val_str.2 rfl⟩
      simp only [Sem.run_bind, eqGuard_str, Result.andThen_ok, binOp, Op.stringOp, if_neg h', Sem.run_pure]
    · intro _
      exact ⟨_, by simp only [Sem.run_bind, eqGuard_str, Result.andThen_ok, binOp, Op.stringOp, Sem.run_pure], val_bool.2 rfl⟩
    · intro _
      exact ⟨_, by simp only [Sem.run_bind, eqGuard_str, Result.andThen_ok, binOp, Op.stringOp, Sem.run_pure], val_bool.2 rfl⟩
    · intro _
      exact ⟨_, by simp only [Sem.run_bind, eqGuard_str, Result.andThen_ok, binOp, Op.stringOp, Sem.run_pure], val_bool.2 rfl⟩
    · exact bad_ok
  · exact bad_ok

theorem field_ok (hT : TabOK C P) {x : AV} {v : Value} (hx : AVRel I ρ x v) (s : TypeId) (f : Nat) : ValOK P I ρ w (Instr.field s v f) (fieldD C s x f) := by
  unfold fieldD
  split
  · rename_i fs hd
    split
    · rename_i fd τ y hf
      intro hc
      obtain ⟨_, σ, z, e, hl, e2⟩ := layPV_ok hc
      rw [e2]
      simp only at e ⊢
      obtain ⟨j, hj, ha, hs⟩ := lay_spec hl
      have hagg : τ.agg = true := by cases τ <;> first | rfl | (simp [getK] at e)
      obtain ⟨us, rfl, hfl⟩ := val_agg (hx : Val I ρ τ y v) hagg
      obtain ⟨pre, mid, post, rfl, hl', hm⟩ := getK_flat τ y f fd.offset us σ z e hfl
      have hu := hT.under hd (by simp) w
      have hsz := hT.sizeOf hj w
      have hag := hT.isAgg hj w
      have hml := flat_length σ _ mid hm
      have hf' : fs[f]? = some fd := by rw [← Array.getElem?_toList]; exact hf
      rw [e]
      cases hta : σ.agg with
      | true =>
        refine ⟨.agg mid.toArray, ?_, mid, hm, by simp [hta]⟩
        have hext : (pre ++ mid ++ post).toArray.extract fd.offset (fd.offset + σ.size) = mid.toArray := by
          apply Array.ext'
          simp only [Array.toList_extract, List.extract]
          rw [← hl', List.append_assoc, List.drop_left, show pre.length + σ.size - pre.length = σ.size by omega, List.take_left' hml]
        simp only [Instr.field, Sem.run_bind, Result.andThen_ok, hu, hf', asAgg, Sem.run_pure, part, hag, ha, hta, if_true, hsz, hs, hext]
      | false =>
        have h1s : σ.size = 1 := by cases σ <;> first | rfl | (simp [Ty.agg] at hta)
        rw [h1s] at hml
        obtain ⟨u, rfl⟩ := List.length_eq_one_iff.1 hml
        refine ⟨u, ?_, [u], hm, by simp [hta]⟩
        have hget : (pre ++ [u] ++ post).toArray[fd.offset]? = some u := by
          rw [List.getElem?_toArray, List.append_assoc, List.getElem?_append_right (by omega), hl']
          simp
        simp only [Instr.field, Sem.run_bind, Result.andThen_ok, hu, hf', asAgg, Sem.run_pure, part, hag, ha, hta, Bool.false_eq_true, if_false, hget]
    · exact bad_ok
  · exact bad_ok

theorem vals_get : ∀ (l : List SV) (vs : List Value) (k : Nat) (s : SV), Vals I ρ l vs → l[k]? = some s → ∃ v, vs[k]? = some v ∧ Val I ρ s.1 s.2 v
  | [], _, k, s, _, h => by simp at h
  | x :: l, vs, 0, s, h, e => by
    obtain ⟨v, vs', rfl, h2, h3⟩ := h
    simp at e; subst e
    exact ⟨v, rfl, h2⟩
  | x :: l, vs, k + 1, s, h, e => by
    obtain ⟨v, vs', rfl, h2, h3⟩ := h
    obtain ⟨u, h4, h5⟩ := vals_get l vs' k s h3 (by simpa using e)
    exact ⟨u, by simpa using h4, h5⟩

theorem extract_ok {l : List SV} {v : Value} (hx : AVRel I ρ (.tup l) v) {k : Nat} {s : SV} (h : l[k]? = some s) : ∃ u, (Instr.extract v k).run P w = .ok u w ∧ Val I ρ s.1 s.2 u := by
  obtain ⟨vs, rfl, h2⟩ := hx
  obtain ⟨u, h3, h4⟩ := vals_get l _ k s h2 h
  rw [Array.getElem?_toList] at h3
  exact ⟨u, by simp [Instr.extract, h3], h4⟩

/-! ### New blocks -/
def NewOK (P : Program) (I : Nat → Option Obj) (ρ : Nat → Place) (id : Nat) (w : World) (sem : Sem Value) (v : Nat → AV) (ob : HObj) : Prop :=
  ∃ x w' pl, sem.run P w = .ok x w' ∧ pl ≠ .none ∧ Moved w w' none ∧ (∀ g c s, pl = .blk g c s → w.heap.size ≤ g ∧ g < w'.heap.size) ∧ HRel I (upd ρ id pl) w' id ob ∧ AVRel I (upd ρ id pl) (v id) x

theorem alloc_new (w : World) (o : Obj) : (w.alloc o).heap[w.heap.size]? = some o := by
  show (w.heap.push o)[w.heap.size]? = _
  simp

theorem agree_id {id : Nat} (hid : ρ id = .none) (pl : Place) : Agree ρ (upd ρ id pl) := fun b hb => upd_ne _ _ (fun e => hb (e ▸ hid))
theorem agree_new (hinv : Inv B I ρ H w) (pl : Place) : Agree ρ (upd ρ H.length pl) := agree_id (hinv.fresh _ (Nat.le_refl _)) pl

theorem box_new {id : Nat} (hid : ρ id = .none) {τ : Ty} {x : τ.D} {us : List Value} (hf : Flat I ρ τ x us) (e : TypeId) {cs : Array Value} (hcs : cs = us.toArray) {sem : Sem Value}
    (hrun : sem.run P w = .ok (.pointer (some ⟨w.heap.size, 0, none⟩)) (w.alloc (.cells cs e))) : NewOK P I ρ id w sem (fun id => .v .ref (.ptr id [])) (.var τ x e) := by
  subst hcs
  refine ⟨_, _, .blk w.heap.size 0 0, hrun, by simp, Moved.alloc _ _ _, fun g c s h => by cases h; exact ⟨Nat.le_refl _, by simp⟩, ⟨w.heap.size, 0, 0, us, upd_same _ _ _, alloc_new _ _, flat_keep (Sub.refl I) (agree_id hid _) hf⟩, ref_mk ⟨w.heap.size, 0, 0, upd_same _ _ _, rfl⟩⟩

theorem box_ok {id : Nat} (hid : ρ id = .none) {τ : Ty} {x : τ.D} {v : Value} (h : Val I ρ τ x v) (e : TypeId) : NewOK P I ρ id w (Instr.box e v) (fun id => .v .ref (.ptr id [])) (.var τ x e) :=
  box_new hid (val_cells h) e (cs := v.cells) (by simp) (by simp [Instr.box, newVar, newRow])

theorem zeroOf_spec (hT : TabOK C P) {e : TypeId} {τ : Ty} (h : zeroOf C e = some τ) (w : World) : ∃ i f cs, seek C.ti e = some i ∧ P.info? e = some f ∧ f.size = i.size ∧ f.bytes = i.bytes ∧ zcells τ = some cs ∧ f.zero = some (if τ.agg then .agg cs.toArray else cs.headD undef) := by
  unfold zeroOf at h
  split at h
  · rename_i i hi
    obtain ⟨f, h1, h2, h3, h4⟩ := hT.info e i hi
    obtain ⟨cs, h5, h6⟩ := h4 τ h
    exact ⟨i, f, cs, hi, h1, h2, h3, h5, h6⟩
  · cases h

theorem alloc_ok (hT : TabOK C P) {id : Nat} (hid : ρ id = .none) {e : TypeId} {τ : Ty} (h : zeroOf C e = some τ) : NewOK P I ρ id w (Instr.alloc e true (.tuple #[])) (fun id => .v .ref (.ptr id [])) (.var τ τ.dflt e) := by
  obtain ⟨i, f, cs, hi, hf, _, _, hz, hfz⟩ := zeroOf_spec hT h w
  have hv := val_zero (I := I) (ρ := ρ) τ cs hz
  exact box_new hid (val_cells hv) e (cs := (if τ.agg then Value.agg cs.toArray else cs.headD undef).cells) (by simp) (by simp only [Instr.alloc, zeroValue, typeInfo, Sem.run_bind, run_program, Result.andThen_ok, hf, Sem.run_pure, hfz, newVar, newRow, run_newObj, World.alloc_eq])
end
end Go.Proofs.Ytdjdbjcapenjeaa.Dx

/- Literals. -/
namespace Go.Proofs.Ytdjdbjcapenjeaa.Dx
open Go Go.RowKit
set_option linter.unusedVariables false
set_option linter.unusedSimpArgs false
section
variable {B : Base} {H : List HObj} {w : World} {I : Nat → Option Obj} {ρ : Nat → Place} {P : Program} {C : Ctx}

theorem foldl_put : ∀ (vs : List Value) (k off : Nat) (cs : Array Value), off + k + vs.length ≤ cs.size →
    ((vs.zipIdx k).foldl (fun (a : Array Value) (p : Value × Nat) => a.setIfInBounds (off + p.2) p.1) cs).toList = cs.toList.take (off + k) ++ vs ++ cs.toList.drop (off + k + vs.length)
  | [], k, off, cs, h => by simp
  | v :: r, k, off, cs, h => by
    simp only [List.length_cons] at h
    rw [List.zipIdx_cons, List.foldl_cons, foldl_put r (k + 1) off _ (by simp; omega)]
    have hk : off + k < cs.toList.length := by rw [Array.length_toList]; omega
    rw [Array.toList_setIfInBounds]
    have h1 : (cs.toList.set (off + k) v).take (off + (k + 1)) = cs.toList.take (off + k) ++ [v] := by
      rw [show off + (k + 1) = (off + k) + 1 by omega, List.take_add_one, List.take_set_of_le (Nat.le_refl _), List.getElem?_set_self hk]
      rfl
    have h2 : (cs.toList.set (off + k) v).drop (off + (k + 1) + r.length) = cs.toList.drop (off + k + (v :: r).length) := by
      rw [List.drop_set_of_lt (by omega)]
      congr 1
      simp only [List.length_cons]; omega
    rw [h1, h2]
    simp

theorem fill_one (v : Value) (off : Nat) (cs : Array Value) (h : off + v.cells.size ≤ cs.size) :
    (v.cells.zipIdx.foldl (fun cs (x : Value × Nat) => cs.setIfInBounds (off + x.2) x.1) cs) = (cs.toList.take off ++ v.cells.toList ++ cs.toList.drop (off + v.cells.size)).toArray := by
  apply Array.ext'
  rw [← Array.foldl_toList, Array.toList_zipIdx]
  have := foldl_put v.cells.toList 0 off cs (by simpa using h)
  simpa using this

/-- The lengths of the parts ahead. -/
def before (lens : List Nat) (i : Nat) : Nat := (lens.take i).sum

theorem flatten_length (segs : List (List Value)) : segs.flatten.length = (segs.map List.length).sum := by simp [List.length_flatten]

theorem flatten_mid (A C : List (List Value)) (x : List Value) : (A ++ x :: C).flatten = A.flatten ++ (x ++ C.flatten) := by simp
theorem drop_mid (A x C : List Value) : (A ++ (x ++ C)).drop (A.length + x.length) = C := by rw [← List.append_assoc, ← List.length_append, List.drop_left]
theorem segs_cut (segs : List (List Value)) (i : Nat) (new : List Value) (hi : i < segs.length) :
    (segs.set i new).flatten = segs.flatten.take (before (segs.map List.length) i) ++ new ++ segs.flatten.drop (before (segs.map List.length) i + segs[i].length) ∧ before (segs.map List.length) i + segs[i].length ≤ segs.flatten.length := by
  have e : segs = segs.take i ++ segs[i] :: segs.drop (i + 1) := by rw [List.getElem_cons_drop, List.take_append_drop]
  have e2 : segs.set i new = segs.take i ++ new :: segs.drop (i + 1) := by rw [List.set_eq_take_append_cons_drop, if_pos hi]
  have hb : before (segs.map List.length) i = (segs.take i).flatten.length := by
    unfold before
    rw [flatten_length, ← List.map_take]
  have e3 : segs.flatten = (segs.take i).flatten ++ (segs[i] ++ (segs.drop (i + 1)).flatten) := (congrArg List.flatten e).trans (flatten_mid _ _ _)
  rw [e2, hb, e3, List.take_left, drop_mid, flatten_mid]
  exact ⟨by simp, by simp only [List.length_append]; omega⟩

theorem fill_segs (place : Nat → Option (Nat × Nat)) (lens : List Nat) : ∀ (ps : List (Nat × Value)) (segs : List (List Value)), segs.map List.length = lens →
    (∀ p ∈ ps, p.1 < lens.length ∧ place p.1 = some (before lens p.1, lens.getD p.1 0) ∧ p.2.cells.size = lens.getD p.1 0) →
    Instr.fill place segs.flatten.toArray ps = some (ps.foldl (fun s p => s.set p.1 p.2.cells.toList) segs).flatten.toArray
  | [], segs, _, _ => rfl
  | (i, v) :: r, segs, hl, h => by
    obtain ⟨h1, h2, h3⟩ := h (i, v) (List.mem_cons_self ..)
    simp only at h1 h2 h3
    have hi : i < segs.length := by rw [← hl, List.length_map] at h1; exact h1
    have hsz : segs[i].length = v.cells.size := by
      rw [h3, ← hl, List.getD_eq_getElem?_getD, List.getElem?_map, List.getElem?_eq_getElem hi]
      rfl
    obtain ⟨hcut, htot⟩ := segs_cut segs i v.cells.toList hi
    rw [hl, hsz] at hcut htot
    have hfold := fill_one v (before lens i) segs.flatten.toArray (by simpa using htot)
    have hlens : (segs.set i v.cells.toList).map List.length = lens := by
      rw [List.map_set, hl]
      apply List.ext_getElem?
      intro j
      rw [List.getElem?_set]
      split
      · rename_i hij
        subst hij
        rw [Array.length_toList, h3, List.getD_eq_getElem?_getD, List.getElem?_eq_getElem h1]
        rfl
      · rfl
    simp only [Instr.fill, h2]
    rw [if_neg]
    · rw [List.foldl_cons, ← fill_segs place lens r _ hlens (fun p hp => h p (List.mem_cons_of_mem _ hp)), hcut]
      congr 1
    · simp only [List.size_toArray, Bool.or_eq_true, decide_eq_true_eq, not_or, ne_eq, Decidable.not_not]
      exact ⟨h3, by omega⟩

/-- A struct's parts, segment by segment. -/
def FS (I : Nat → Option Obj) (ρ : Nat → Place) : (τ : Ty) → τ.D → List (List Value) → Prop
  | .pair a b, x, s => ∃ u r, s = u :: r ∧ Flat I ρ a x.1 u ∧ FS I ρ b x.2 r
  | .unit, _, s => s = []
  | _, _, _ => False
theorem fs_flat : ∀ (τ : Ty) (x : τ.D) (s : List (List Value)), FS I ρ τ x s → Flat I ρ τ x s.flatten := by
  intro τ
  induction τ with
  | pair a b _ ih =>
    intro x s h
    obtain ⟨u, r, rfl, h1, h2⟩ := h
    exact ⟨u, r.flatten, by simp, h1, ih _ _ h2⟩
  | unit => intro x s h; simp only [FS] at h; subst h; rfl
  | _ => intro x s h; exact h.elim

def zsegs : Ty → Option (List (List Value))
  | .pair a b => match zcells a, zsegs b with
    | some u, some r => some (u :: r)
    | _, _ => none
  | .unit => some []
  | _ => none
theorem zsegs_flatten : ∀ (z : Ty) (s : List (List Value)), zsegs z = some s → zcells z = some s.flatten ∧ s.length = z.count := by
  intro z
  induction z with
  | pair a b _ ih =>
    intro s h
    simp only [zsegs] at h
    split at h
    · rename_i u r hu hr
      cases h
      obtain ⟨h1, h2⟩ := ih r hr
      exact ⟨by simp [zcells, hu, h1], by simp [Ty.count, h2]⟩
    · cases h
  | unit => intro s h; simp [zsegs] at h; subst h; exact ⟨rfl, rfl⟩
  | _ => intro s h; simp [zsegs] at h

/-- The parts as values. -/
def Parts (I : Nat → Option Obj) (ρ : Nat → Place) : List (Nat × AV) → List (Nat × Value) → Prop
  | [], vs => vs = []
  | p :: r, vs => ∃ v vs', vs = (p.1, v) :: vs' ∧ AVRel I ρ p.2 v ∧ Parts I ρ r vs'
theorem parts_look : ∀ (ps : List (Nat × AV)) (vs : List (Nat × Value)) (k : Nat), Parts I ρ ps vs → (seek ps k = none ∧ seek vs k = none) ∨ ∃ x v, seek ps k = some x ∧ seek vs k = some v ∧ AVRel I ρ x v
  | [], vs, k, h => by simp only [Parts] at h; subst h; exact .inl ⟨rfl, rfl⟩
  | p :: r, vs, k, h => by
    obtain ⟨v, vs', rfl, h1, h2⟩ := h
    simp only [seek]
    cases Nat.beq p.1 k with
    | true => exact .inr ⟨p.2, v, rfl, rfl, h1⟩
    | false => exact parts_look r vs' k h2

/-- What the parts make of the zero segments. -/
def laid (vs : List (Nat × Value)) : Nat → List (List Value) → List (List Value)
  | _, [] => []
  | k, z :: r => (match seek vs k with | some v => v.cells.toList | none => z) :: laid vs (k + 1) r

theorem val_size {τ : Ty} {x : τ.D} {v : Value} (h : Val I ρ τ x v) : v.cells.size = τ.size := by
  have := flat_length τ x _ (val_cells h)
  simpa using this

theorem buildK_fs (ps : List (Nat × AV)) (vs : List (Nat × Value)) (hp : Parts I ρ ps vs) : ∀ (z : Ty) (k : Nat) (s : List (List Value)) (τ : Ty) (x : τ.D), zsegs z = some s → buildK z k ps = some ⟨τ, x⟩ →
    FS I ρ τ x (laid vs k s) ∧ (laid vs k s).map List.length = s.map List.length ∧ τ.agg = true := by
  intro z
  induction z with
  | pair a b _ ih =>
    intro k s τ x hs hb
    simp only [zsegs] at hs
    split at hs
    · rename_i u r hu hr
      cases hs
      simp only [buildK] at hb
      split at hb
      · rename_i b' y hy
        obtain ⟨h1, h2, _⟩ := ih (k + 1) r b' y hr hy
        have hfu := zcells_flat (I := I) (ρ := ρ) a u hu
        rcases parts_look ps vs k hp with ⟨h3, h4⟩ | ⟨q, v, h3, h4, h5⟩
        · rw [h3] at hb
          cases hb
          exact ⟨⟨u, laid vs (k + 1) r, by simp [laid, h4], hfu, h1⟩, by simp [laid, h4, h2], rfl⟩
        · rw [h3] at hb
          cases q with
          | tup l => cases hb
          | dead => cases hb
          | v a' x' =>
            simp only at hb
            cases hsm : same a a' with
            | false => rw [hsm] at hb; cases hb
            | true =>
              rw [hsm] at hb
              cases hb
              obtain ⟨_, hsz⟩ := same_spec hsm
              have hv := val_cells h5
              have := val_size (h5 : Val I ρ a' x' v)
              have := flat_length a _ u hfu
              exact ⟨⟨v.cells.toList, laid vs (k + 1) r, by simp [laid, h4], hv, h1⟩, by simp [laid, h4, h2]; omega, rfl⟩
      · cases hb
    · cases hs
  | unit =>
    intro k s τ x hs hb
    simp [zsegs] at hs
    subst hs
    simp only [buildK] at hb
    cases hb
    exact ⟨rfl, rfl, rfl⟩
  | _ => intro k s τ x hs; simp [zsegs] at hs

theorem look_none {α : Type} : ∀ (l : List (Nat × α)) (k : Nat), (∀ p ∈ l, p.1 ≠ k) → seek l k = none
  | [], _, _ => rfl
  | p :: r, k, h => by
    have : Nat.beq p.1 k = false := by
      cases hb : Nat.beq p.1 k with
      | false => rfl
      | true => exact absurd (Nat.eq_of_beq_eq_true hb) (h p (List.mem_cons_self ..))
    simp only [seek, this, cond_false]
    exact look_none r k (fun q hq => h q (List.mem_cons_of_mem _ hq))

def Rising : Nat → List (Nat × Value) → Prop
  | _, [] => True
  | k, p :: r => k ≤ p.1 ∧ Rising (p.1 + 1) r
theorem rising_ge : ∀ (l : List (Nat × Value)) (k : Nat), Rising k l → ∀ p ∈ l, k ≤ p.1
  | [], _, _, p, hp => by cases hp
  | q :: r, k, h, p, hp => by
    rcases List.mem_cons.1 hp with rfl | hp
    · exact h.1
    · have := rising_ge r (q.1 + 1) h.2 p hp
      have := h.1
      omega
theorem parts_rising : ∀ (ps : List (Nat × AV)) (vs : List (Nat × Value)) (k : Nat), Parts I ρ ps vs → rising k ps = true → Rising k vs
  | [], vs, k, h, _ => by simp only [Parts] at h; subst h; trivial
  | p :: r, vs, k, h, hr => by
    obtain ⟨v, vs', rfl, h1, h2⟩ := h
    simp only [rising, Bool.and_eq_true] at hr
    exact ⟨Nat.le_of_ble_eq_true hr.1, parts_rising r vs' _ h2 hr.2⟩

theorem laid_nil : ∀ (k : Nat) (s : List (List Value)), laid [] k s = s
  | _, [] => rfl
  | k, z :: r => by simp [laid, seek, laid_nil]

theorem laid_cons (p : Nat × Value) (r : List (Nat × Value)) (hn : seek r p.1 = none) : ∀ (k : Nat) (s : List (List Value)), laid (p :: r) k s = laid r k (cond (Nat.ble k p.1) (s.set (p.1 - k) p.2.cells.toList) s)
  | k, [] => by cases Nat.ble k p.1 <;> rfl
  | k, z :: t => by
    rcases Nat.lt_trichotomy k p.1 with h | h | h
    · have h1 : Nat.ble k p.1 = true := Nat.ble_eq_true_of_le (by omega)
      have h2 : Nat.ble (k + 1) p.1 = true := Nat.ble_eq_true_of_le (by omega)
      have h3 : Nat.beq p.1 k = false := by
        cases hb : Nat.beq p.1 k with
        | false => rfl
        | true => have := Nat.eq_of_beq_eq_true hb; omega
      have ih := laid_cons p r hn (k + 1) t
      rw [h2, cond_true] at ih
      rw [h1, cond_true, show p.1 - k = (p.1 - (k + 1)) + 1 by omega, List.set_cons_succ]
      simp only [laid, seek, h3, cond_false, ih]
    · subst h
      have h1 : Nat.ble p.1 p.1 = true := Nat.ble_eq_true_of_le (Nat.le_refl _)
      have h2 : Nat.ble (p.1 + 1) p.1 = false := by
        cases hb : Nat.ble (p.1 + 1) p.1 with
        | false => rfl
        | true => have := Nat.le_of_ble_eq_true hb; omega
      have ih := laid_cons p r hn (p.1 + 1) t
      rw [h2, cond_false] at ih
      rw [h1, cond_true, Nat.sub_self, List.set_cons_zero]
      have hb : Nat.beq p.1 p.1 = true := by simp
      simp only [laid, seek, hb, cond_true, hn, ih]
    · have h1 : Nat.ble k p.1 = false := by
        cases hb : Nat.ble k p.1 with
        | false => rfl
        | true => have := Nat.le_of_ble_eq_true hb; omega
      have h2 : Nat.ble (k + 1) p.1 = false := by
        cases hb : Nat.ble (k + 1) p.1 with
        | false => rfl
        | true => have := Nat.le_of_ble_eq_true hb; omega
      have h3 : Nat.beq p.1 k = false := by
        cases hb : Nat.beq p.1 k with
        | false => rfl
        | true => have := Nat.eq_of_beq_eq_true hb; omega
      have ih := laid_cons p r hn (k + 1) t
      rw [h2, cond_false] at ih
      rw [h1, cond_false]
      simp only [laid, seek, h3, cond_false, ih]

/-- One part after the other is all parts at once. -/
theorem foldl_laid : ∀ (vs : List (Nat × Value)) (k : Nat) (s : List (List Value)), Rising k vs → vs.foldl (fun s p => s.set p.1 p.2.cells.toList) s = laid vs 0 s
  | [], k, s, _ => (laid_nil 0 s).symm
  | p :: r, k, s, h => by
    have hn : seek r p.1 = none := look_none r p.1 fun q hq => by
      have := rising_ge r _ h.2 q hq
      omega
    rw [List.foldl_cons, foldl_laid r (p.1 + 1) _ h.2, laid_cons p r hn 0 s]
    rfl

def Apart : List (Nat × Value) → Prop
  | [] => True
  | p :: r => (∀ q ∈ r, q.1 ≠ p.1) ∧ Apart r
theorem foldl_laidA : ∀ (vs : List (Nat × Value)) (s : List (List Value)), Apart vs → vs.foldl (fun s p => s.set p.1 p.2.cells.toList) s = laid vs 0 s
  | [], s, _ => (laid_nil 0 s).symm
  | p :: r, s, h => by
    rw [List.foldl_cons, foldl_laidA r _ h.2, laid_cons p r (look_none r p.1 h.1) 0 s]
    rfl
theorem parts_fst : ∀ (ps : List (Nat × AV)) (vs : List (Nat × Value)), Parts I ρ ps vs → vs.map (·.1) = ps.map (·.1)
  | [], vs, h => by simp only [Parts] at h; subst h; rfl
  | p :: r, vs, h => by
    obtain ⟨v, vs', rfl, h1, h2⟩ := h
    rw [List.map_cons, List.map_cons, parts_fst r vs' h2]
theorem parts_apart : ∀ (ps : List (Nat × AV)) (vs : List (Nat × Value)), Parts I ρ ps vs → apartD ps = true → Apart vs
  | [], vs, h, _ => by simp only [Parts] at h; subst h; trivial
  | p :: r, vs, h, hr => by
    obtain ⟨v, vs', rfl, h1, h2⟩ := h
    simp only [apartD, Bool.and_eq_true] at hr
    refine ⟨fun q hq e => ?_, parts_apart r vs' h2 hr.2⟩
    have hm : q.1 ∈ vs'.map (·.1) := List.mem_map_of_mem hq
    rw [parts_fst r vs' h2] at hm
    obtain ⟨x, hx, hxe⟩ := List.mem_map.1 hm
    have := List.all_eq_true.1 hr.1 x hx
    rw [Bool.not_eq_true'] at this
    rw [show Nat.beq x.1 p.1 = true by rw [hxe, e]; exact Nat.beq_refl _] at this
    cases this
theorem apart_uniq : ∀ (l : List (Nat × Value)), Apart l → ∀ a b, a ∈ l → b ∈ l → a.1 = b.1 → a = b
  | [], _, a, b, h, _, _ => by cases h
  | q :: r, h, a, b, ha, hb, e => by
    rcases List.mem_cons.1 ha with rfl | ha' <;> rcases List.mem_cons.1 hb with rfl | hb'
    · rfl
    · exact absurd e.symm (h.1 b hb')
    · exact absurd e (h.1 a ha')
    · exact apart_uniq r h.2 a b ha' hb' e

theorem fieldsOK_place (hT : TabOK C P) : ∀ (z : Ty) (off : Nat) (fs : List Field) (s : List (List Value)), fieldsOK C z off fs = true → zsegs z = some s → fs.length = s.length ∧
    ∀ k fd, fs[k]? = some fd → fd.offset = off + before (s.map List.length) k ∧ sizeT C fd.type = (s.map List.length).getD k 0 := by
  intro z
  induction z with
  | pair a b _ ih =>
    intro off fs s h hs
    cases fs with
    | nil => simp [fieldsOK] at h
    | cons f fs =>
      simp only [fieldsOK, Bool.and_eq_true] at h
      simp only [zsegs] at hs
      split at hs
      · rename_i u r hu hr
        cases hs
        have hfu := flat_length a _ u (zcells_flat (I := fun _ => none) (ρ := fun _ => .none) a u hu)
        obtain ⟨h1, h2⟩ := ih (off + a.size) fs r h.2 hr
        refine ⟨by simp [h1], fun k fd hk => ?_⟩
        cases k with
        | zero =>
          simp at hk
          subst hk
          have e1 := Nat.eq_of_beq_eq_true h.1.1.1
          have e2 := Nat.eq_of_beq_eq_true h.1.1.2
          exact ⟨by simp [before, e1], by simp [hfu, e2]⟩
        | succ k =>
          simp at hk
          obtain ⟨h3, h4⟩ := h2 k fd hk
          refine ⟨?_, by simpa using h4⟩
          rw [h3]
          simp only [before, List.map_cons, List.take_succ_cons, List.sum_cons]
          omega
      · cases hs
  | unit =>
    intro off fs s h hs
    cases fs with
    | nil => simp [zsegs] at hs; subst hs; exact ⟨rfl, fun k fd hk => by simp at hk⟩
    | cons f fs => simp [fieldsOK] at h
  | _ => intro off fs s h; simp [fieldsOK] at h

theorem run_places (hT : TabOK C P) (w : World) : ∀ (fs : List Field), (∀ f ∈ fs, ∃ i, seek C.ti f.type = some i) →
    (fs.mapM (fun f => do pure (f.offset, ← Go.sizeOf f.type) : Field → Sem (Nat × Nat))).run P w = .ok (fs.map fun f => (f.offset, sizeT C f.type)) w
  | [], _ => rfl
  | f :: fs, h => by
    obtain ⟨i, hi⟩ := h f (List.mem_cons_self ..)
    have h1 := hT.sizeOf hi w
    have h2 : sizeT C f.type = i.size := by unfold sizeT; rw [hi]
    have ih := run_places hT w fs (fun g hg => h g (List.mem_cons_of_mem _ hg))
    rw [List.mapM_cons]
    simp only [Sem.run_bind, h1, Result.andThen_ok, Sem.run_pure, ih, List.map_cons, h2]

theorem zsegs_of (z : Ty) : ∀ (off : Nat) (fs : List Field), fieldsOK C z off fs = true → ∀ cs, zcells z = some cs → ∃ s, zsegs z = some s := by
  induction z with
  | pair a b _ ih =>
    intro off fs h cs hc
    cases fs with
    | nil => simp [fieldsOK] at h
    | cons f fs =>
      simp only [fieldsOK, Bool.and_eq_true] at h
      simp only [zcells] at hc
      split at hc
      · rename_i u v hu hv
        obtain ⟨s, hs⟩ := ih _ fs h.2 v hv
        exact ⟨u :: s, by simp [zsegs, hu, hs]⟩
      · cases hc
  | unit => intro off fs h cs hc; exact ⟨[], rfl⟩
  | _ => intro off fs h; simp [fieldsOK] at h

theorem fieldsOK_look : ∀ (z : Ty) (off : Nat) (fs : List Field), fieldsOK C z off fs = true → ∀ f ∈ fs, ∃ i, seek C.ti f.type = some i := by
  intro z
  induction z with
  | pair a b _ ih =>
    intro off fs h f hf
    cases fs with
    | nil => cases hf
    | cons g fs =>
      simp only [fieldsOK, Bool.and_eq_true] at h
      rcases List.mem_cons.1 hf with rfl | hf
      · have := h.1.2
        split at this
        · rename_i i hi; exact ⟨i, hi⟩
        · cases this
      · exact ih _ fs h.2 f hf
  | unit => intro off fs h f hf; cases fs with | nil => cases hf | cons g fs => simp [fieldsOK] at h
  | _ => intro off fs h; simp [fieldsOK] at h

theorem parts_mem : ∀ (ps : List (Nat × AV)) (vs : List (Nat × Value)), Parts I ρ ps vs → ∀ p ∈ vs, ∃ q ∈ ps, q.1 = p.1 ∧ AVRel I ρ q.2 p.2
  | [], vs, h, p, hp => by simp only [Parts] at h; subst h; cases hp
  | q :: r, vs, h, p, hp => by
    obtain ⟨v, vs', rfl, h1, h2⟩ := h
    rcases List.mem_cons.1 hp with rfl | hp
    · exact ⟨q, List.mem_cons_self .., rfl, h1⟩
    · obtain ⟨q', h3, h4⟩ := parts_mem r vs' h2 p hp
      exact ⟨q', List.mem_cons_of_mem _ h3, h4⟩

/-- Each part has its field's size. -/
theorem buildK_sizes (ps : List (Nat × AV)) (vs : List (Nat × Value)) (hp : Parts I ρ ps vs) : ∀ (z : Ty) (k : Nat) (s : List (List Value)) (sv : SV), zsegs z = some s → buildK z k ps = some sv →
    ∀ j v, seek vs (k + j) = some v → j < s.length → v.cells.size = (s.map List.length).getD j 0 := by
  intro z
  induction z with
  | pair a b _ ih =>
    intro k s sv hs hb j v hv hj
    simp only [zsegs] at hs
    split at hs
    · rename_i u r hu hr
      cases hs
      simp only [buildK] at hb
      split at hb
      · rename_i b' y hy
        cases j with
        | zero =>
          rcases parts_look ps vs k hp with ⟨h3, h4⟩ | ⟨q, v', h3, h4, h5⟩
          · rw [Nat.add_zero, h4] at hv; cases hv
          · rw [Nat.add_zero, h4] at hv
            cases hv
            rw [h3] at hb
            cases q with
            | tup l => cases hb
            | dead => cases hb
            | v a' x' =>
              simp only at hb
              cases hsm : same a a' with
              | false => rw [hsm] at hb; cases hb
              | true =>
                obtain ⟨_, hsz⟩ := same_spec hsm
                have := val_size (h5 : Val I ρ a' x' v)
                have := flat_length a _ u (zcells_flat (I := I) (ρ := ρ) a u hu)
                simp only [List.map_cons, List.getD_cons_zero]
                omega
        | succ j =>
          have := ih (k + 1) r _ hr hy j v (by rw [← hv]; congr 1; omega) (by simpa using hj)
          simpa using this
      · cases hb
    · cases hs
  | unit => intro k s sv hs hb j v hv hj; simp [zsegs] at hs; subst hs; simp at hj
  | _ => intro k s sv hs; simp [zsegs] at hs

theorem look_mem {α : Type} : ∀ (l : List (Nat × α)) (p : Nat × α), p ∈ l → (∀ a b, (a ∈ l → b ∈ l → a.1 = b.1 → a = b)) → seek l p.1 = some p.2
  | [], p, h, _ => by cases h
  | q :: r, p, h, hu => by
    simp only [seek]
    cases hb : Nat.beq q.1 p.1 with
    | true =>
      have := hu q p (List.mem_cons_self ..) h (Nat.eq_of_beq_eq_true hb)
      subst this
      rfl
    | false =>
      rcases List.mem_cons.1 h with rfl | h
      · simp at hb
      · exact look_mem r p h fun a b ha hb => hu a b (List.mem_cons_of_mem _ ha) (List.mem_cons_of_mem _ hb)
theorem rising_uniq : ∀ (l : List (Nat × Value)) (k : Nat), Rising k l → ∀ a b, a ∈ l → b ∈ l → a.1 = b.1 → a = b
  | [], _, _, a, b, h, _, _ => by cases h
  | q :: r, k, h, a, b, ha, hb, e => by
    rcases List.mem_cons.1 ha with rfl | ha' <;> rcases List.mem_cons.1 hb with rfl | hb'
    · rfl
    · have := rising_ge r _ h.2 b hb'; omega
    · have := rising_ge r _ h.2 a ha'; omega
    · exact rising_uniq r _ h.2 a b ha' hb' e

theorem build_ok (hT : TabOK C P) {t : TypeId} {z : Ty} {fs : Array Field} (hz : zeroOf C t = some z) (hd : descT C t = .struct fs) {ps : List (Nat × AV)} {vs : Array (Nat × Value)} (hp : Parts I ρ ps vs.toList)
    (hc : (fieldsOK C z 0 fs.toList && apartD ps && ps.all fun p => Nat.blt p.1 z.count) = true) {τ : Ty} {x : τ.D} (hb : buildK z 0 ps = some ⟨τ, x⟩) :
    ∃ v, (Instr.build t vs).run P w = .ok v w ∧ Val I ρ τ x v := by
  simp only [Bool.and_eq_true] at hc
  obtain ⟨⟨hf, hr⟩, hlt⟩ := hc
  obtain ⟨i, f, cs, hi, hinfo, _, _, hzc, hfz⟩ := zeroOf_spec hT hz w
  obtain ⟨s, hs⟩ := zsegs_of z 0 fs.toList hf cs hzc
  obtain ⟨hs1, hs2⟩ := zsegs_flatten z s hs
  rw [hzc] at hs1
  cases hs1
  obtain ⟨hlen, hpl⟩ := fieldsOK_place hT z 0 fs.toList s hf hs
  have hzagg : z.agg = true := by cases z <;> first | rfl | (simp [fieldsOK] at hf)
  rw [hzagg, if_pos rfl] at hfz
  have hris := parts_apart ps vs.toList hp hr
  have hu := hT.under hd (by simp) w
  have hpm := run_places hT w fs.toList (fieldsOK_look z 0 fs.toList hf)
  have hfill := fill_segs (fun k => (fs.toList.map fun f => (f.offset, sizeT C f.type))[k]?) (s.map List.length) vs.toList s rfl ?_
  · rw [foldl_laidA vs.toList s hris] at hfill
    obtain ⟨h1, h2, h3⟩ := buildK_fs ps vs.toList hp z 0 s τ x hs hb
    refine ⟨.agg (laid vs.toList 0 s).flatten.toArray, ?_, (laid vs.toList 0 s).flatten, fs_flat τ x _ h1, by simp [h3]⟩
    have hmap : (fs.mapM (fun f => do pure (f.offset, ← Go.sizeOf f.type) : Field → Sem (Nat × Nat))).run P w = .ok (fs.toList.map fun f => (f.offset, sizeT C f.type)).toArray w := by
      rw [← Array.toArray_toList (xs := fs), List.mapM_toArray]
      simp only [Sem.run_map, hpm, Result.andThen_ok]
    simp only [Instr.build, zeroValue, typeInfo, Sem.run_bind, run_program, Result.andThen_ok, hinfo, Sem.run_pure, hfz, hu, Value.cells, hmap]
    simp only [List.getElem?_toArray, hfill, Sem.run_pure]
  · intro p hpmem
    obtain ⟨q, hq, he, _⟩ := parts_mem ps vs.toList hp p hpmem
    have hl := List.all_eq_true.1 hlt q hq
    have hl' : p.1 < s.length := by
      rw [hs2, ← he]
      have := Nat.le_of_ble_eq_true (show Nat.ble (q.1 + 1) z.count = true from hl)
      omega
    have hfl : p.1 < fs.toList.length := by omega
    obtain ⟨h4, h5⟩ := hpl p.1 _ (List.getElem?_eq_getElem hfl)
    have hlk := look_mem vs.toList p hpmem (apart_uniq _ hris)
    have hsz := buildK_sizes ps vs.toList hp z 0 s _ hs hb p.1 p.2 (by rw [Nat.zero_add]; exact hlk) hl'
    refine ⟨by simpa using hl', ?_, hsz⟩
    rw [List.getElem?_map, List.getElem?_eq_getElem hfl, Option.map_some, h4, h5, Nat.zero_add]
end
end Go.Proofs.Ytdjdbjcapenjeaa.Dx

/- Rows that are made. -/
namespace Go.Proofs.Ytdjdbjcapenjeaa.Dx
open Go Go.RowKit
set_option linter.unusedVariables false
set_option linter.unusedSimpArgs false
section
variable {B : Base} {H : List HObj} {w : World} {I : Nat → Option Obj} {ρ : Nat → Place} {P : Program} {C : Ctx}

theorem chunks (s : Nat) : ∀ (n : Nat) (l : List Value), l.length = n * s → ∃ segs : List (List Value), segs.flatten = l ∧ segs.map List.length = List.replicate n s
  | 0, l, h => ⟨[], by simpa using (List.eq_nil_of_length_eq_zero (by simpa using h)).symm, rfl⟩
  | n + 1, l, h => by
    have h' : l.length = n * s + s := by rw [h, Nat.succ_mul]
    obtain ⟨segs, h1, h2⟩ := chunks s n (l.drop s) (by rw [List.length_drop]; omega)
    refine ⟨l.take s :: segs, by rw [List.flatten_cons, h1, List.take_append_drop], ?_⟩
    rw [List.map_cons, h2, List.length_take, List.replicate_succ, Nat.min_eq_left (by omega)]

theorem sum_rep (i s : Nat) : (List.replicate i s).sum = i * s := by
  induction i with
  | zero => simp
  | succ i ih => rw [List.replicate_succ, List.sum_cons, ih, Nat.succ_mul, Nat.add_comm]
theorem before_replicate (n s i : Nat) (h : i ≤ n) : before (List.replicate n s) i = i * s := by
  unfold before
  rw [List.take_replicate, sum_rep, Nat.min_eq_left h]

theorem laid_skip (p : Nat × Value) (r : List (Nat × Value)) : ∀ (k : Nat) (s : List (List Value)), p.1 < k → laid (p :: r) k s = laid r k s
  | _, [], _ => rfl
  | k, z :: t, h => by
    have h3 : Nat.beq p.1 k = false := by
      cases hb : Nat.beq p.1 k with
      | false => rfl
      | true => have := Nat.eq_of_beq_eq_true hb; omega
    simp only [laid, seek, h3, cond_false]
    rw [laid_skip p r (k + 1) t (by omega)]

/-- The elements, and their cells. -/
theorem buildL_flats {τ : Ty} : ∀ (ps : List (Nat × AV)) (vs : List (Nat × Value)) (k : Nat) (l : List τ.D), Parts I ρ ps vs → buildL τ k ps = some l →
    Flats (Flat I ρ τ) l (vs.map fun p => p.2.cells.toList).flatten ∧ l.length = ps.length ∧ vs.length = ps.length ∧ Rising k vs ∧ (∀ p ∈ vs, k ≤ p.1 ∧ p.1 < k + vs.length ∧ p.2.cells.size = τ.size) ∧
      ∀ s : List (List Value), s.length = vs.length → laid vs k s = vs.map fun p => p.2.cells.toList
  | [], vs, k, l, hp, hb => by
    simp only [Parts] at hp
    subst hp
    cases hb
    refine ⟨rfl, rfl, rfl, trivial, (fun p hp => by cases hp), (fun s hs => ?_)⟩
    have : s = [] := List.eq_nil_of_length_eq_zero (by simpa using hs)
    subst this; rfl
  | (i, x) :: r, vs, k, l, hp, hb => by
    obtain ⟨v, vs', rfl, h1, h2⟩ := hp
    cases x with
    | tup l => simp [buildL] at hb
    | dead => simp [buildL] at hb
    | v σ y =>
      simp only [buildL] at hb
      split at hb
      · rename_i l' hl'
        split at hb
        · rename_i he
          subst he
          cases hk : Nat.beq i k with
          | false => rw [hk] at hb; cases hb
          | true =>
            rw [hk] at hb
            cases hb
            have hik := Nat.eq_of_beq_eq_true hk
            subst hik
            obtain ⟨g1, g2, g3, g4, g5, g6⟩ := buildL_flats r vs' (i + 1) l' h2 hl'
            have hv := val_cells (h1 : Val I ρ σ y v)
            refine ⟨⟨v.cells.toList, _, by simp, hv, g1⟩, by simp [g2], by simp [g3], ⟨Nat.le_refl _, g4⟩, ?_, ?_⟩
            · intro p hp
              rcases List.mem_cons.1 hp with rfl | hp
              · exact ⟨Nat.le_refl _, by simp, val_size h1⟩
              · obtain ⟨q1, q2, q3⟩ := g5 p hp
                exact ⟨by omega, by simp only [List.length_cons]; omega, q3⟩
            · intro s hs
              cases s with
              | nil => simp at hs
              | cons z t =>
                have hbb : Nat.beq i i = true := by simp
                simp only [laid, seek, hbb, cond_true, List.map_cons]
                rw [laid_skip (i, v) vs' (i + 1) t (Nat.lt_succ_self i), g6 t (by simpa using hs)]
        · cases hb
      · cases hb

/-- A row that is all told. -/
theorem row_new {id : Nat} (hid : ρ id = .none) {τ : Ty} {xs : List τ.D} {us spare : List Value} (hf : Flats (Flat I ρ τ) xs us) (e : TypeId) {c : Nat} (hc : (us ++ spare).length = c * τ.size) (hle : xs.length ≤ c) {sem : Sem Value} {n : Nat} (hn : n ≤ xs.length) {W : World} (hW : Moved w W none) (hWs : W.heap.size = w.heap.size)
    (hrun : sem.run P w = .ok (.slice (some ⟨w.heap.size, 0, none⟩) n c) (W.alloc (.cells (us ++ spare).toArray e))) : NewOK P I ρ id w sem (fun id => .v .ref (.sl id 0 n)) (.row τ xs e) := by
  refine ⟨_, _, .blk w.heap.size c τ.size, hrun, by simp, hW.trans (Moved.alloc _ _ _), fun g c s h => ?_, .inr ⟨w.heap.size, c, us, spare, upd_same _ _ _, ?_, hc, hle, flats_keep (Sub.refl I) (agree_id hid _) hf⟩, ref_mk ?_⟩
  · cases h; exact ⟨Nat.le_refl _, by simp [hWs]⟩
  · rw [← hWs]; exact alloc_new _ _
  · simp only [RefRel, upd_same]
    exact ⟨⟨w.heap.size, 0, none⟩, by omega, rfl, rfl, rfl, fun _ => by simp⟩

theorem buildSlice_ok (hT : TabOK C P) {id : Nat} (hid : ρ id = .none) {t e : TypeId} (hd : descT C t = .slice e) {n : Nat} {ps : List (Nat × AV)} {vs : Array (Nat × Value)} (hp : Parts I ρ ps vs.toList) {τ : Ty} {l : List τ.D} (hb : buildL τ 0 ps = some l)
    (hc : (Nat.beq n ps.length && lay C e τ && Nat.ble (n * τ.size) 16777216 && !Nat.beq τ.size 0 && (match zeroOf C e with | some _ => true | none => false)) = true) :
    NewOK P I ρ id w (Instr.buildSlice t n vs) (fun id => .v .ref (.sl id 0 n)) (.row τ l e) := by
  simp only [Bool.and_eq_true] at hc
  obtain ⟨⟨⟨⟨hn, hlay⟩, h24⟩, hsz0⟩, hz⟩ := hc
  have hn := Nat.eq_of_beq_eq_true hn
  have h24 := Nat.le_of_ble_eq_true h24
  have hsz0 := ne0_of hsz0
  obtain ⟨j, hj, ha, hs⟩ := lay_spec hlay
  split at hz
  · rename_i z hz'
    obtain ⟨i, f, cs, hi, hinfo, _, _, hzc, hfz⟩ := zeroOf_spec hT hz' w
    obtain ⟨g1, g2, g3, g4, g5, g6⟩ := buildL_flats ps vs.toList 0 l hp hb
    have hu := hT.under hd (by simp) w
    have hsz := hT.sizeOf hj w
    -- the cells ahead of the parts
    have key : ∀ zero : Array Value, Instr.fill (fun i => some (i * τ.size, τ.size)) ((Array.range (n * τ.size)).map (zero[· % zero.size]!)) vs.toList = some (vs.toList.map fun p => p.2.cells.toList).flatten.toArray := by
      intro zero
      obtain ⟨segs, h1, h2⟩ := chunks τ.size n ((Array.range (n * τ.size)).map (zero[· % zero.size]!)).toList (by simp)
      have e1 : ((Array.range (n * τ.size)).map (zero[· % zero.size]!)) = segs.flatten.toArray := by rw [h1]
      have hls : segs.length = n := by have := congrArg List.length h2; simpa using this
      rw [e1, fill_segs _ (List.replicate n τ.size) vs.toList segs h2 ?_, foldl_laid vs.toList 0 segs g4, g6 segs (by omega)]
      intro p hpm
      obtain ⟨q1, q2, q3⟩ := g5 p hpm
      have hlt : p.1 < n := by omega
      have hgd : (List.replicate n τ.size).getD p.1 0 = τ.size := by
        rw [List.getD_eq_getElem?_getD, List.getElem?_replicate, if_pos hlt]; rfl
      exact ⟨by simpa using hlt, by rw [before_replicate n τ.size p.1 (by omega), hgd], by rw [hgd]; exact q3⟩
    have hl24 : ¬ (n * τ.size > 2 ^ 24) := by omega
    have hflen : (vs.toList.map fun p => p.2.cells.toList).flatten.length = n * τ.size := by
      rw [flats_length (fun x vs h => flat_length τ x vs h) l _ g1, g2, hn]
    refine row_new hid (spare := []) (c := n) g1 e (by rw [List.append_nil, hflen]) (by omega) (by omega) (Moved.refl w _) rfl ?_
    rw [List.append_nil]
    by_cases h0 : n * τ.size = 0
    · simp only [Instr.buildSlice, Sem.run_bind, hu, Result.andThen_ok, hsz, hs, if_neg hl24, if_pos h0, Sem.run_pure, key, newRow, run_newObj, World.alloc_eq]
    · simp only [Instr.buildSlice, Sem.run_bind, hu, Result.andThen_ok, hsz, hs, if_neg hl24, if_neg h0, Sem.run_pure, zeroValue, typeInfo, run_program, hinfo, hfz, key, newRow, run_newObj, World.alloc_eq]
  · cases hz

/-! ### Bytes and strings -/
theorem flats_bytes (s : ByteArray) : Flats (Flat I ρ (.int .u8)) (bytesOf s) (byteCells s) := by
  unfold bytesOf byteCells
  generalize s.data.toList = l
  induction l with
  | nil => rfl
  | cons b l ih => exact ⟨[.int .u8 b.toNat], _, by simp, rfl, ih⟩
theorem bytesOf_length (s : ByteArray) : (bytesOf s).length = s.size := by simp [bytesOf]

theorem flats_ints {k : IntKind} : ∀ (xs : List Int) (us : List Value), Flats (Flat I ρ (.int k)) xs us → us = xs.map fun n => .int k n
  | [], us, h => h
  | x :: xs, us, h => by
    obtain ⟨u, v, rfl, h1, h2⟩ := h
    simp only [Flat] at h1
    subst h1
    rw [flats_ints xs v h2]; rfl

theorem bytesToString_ok (hinv : Inv B I ρ H w) {xs : List Int} {v : Value} (h : Val I ρ (.sl (.int .u8)) xs v) : (Conv.bytesToString v).run P w = .ok (.string (strOf xs)) w := by
  obtain ⟨_, A, c, e, h2, h3⟩ := val_one h rfl
  cases e
  cases A with
  | none =>
    rcases h3 with rfl | ⟨a, us, e, _⟩
    · simp [Conv.bytesToString]; rfl
    · cases e
  | some a =>
    have hload : (loadCells a xs.length).run P w = .ok (xs.map (Value.int .u8)).toArray w := by
      rcases h3 with rfl | ⟨a', us, e, hs, him, hfl⟩
      · simp [loadCells, loadCellsFrom]
      · cases e
        have := flats_ints xs us hfl
        subst this
        have := run_loadCells_list (P := P) w a _ (fun j v hj => imm_cells hinv him hs j v hj)
        simpa using this
    rw [run_bytesToString w a xs.length c xs hload, foldl_push_bytes]
    simp [strOfNums, ByteArray.empty, ByteArray.emptyWithCapacity]
    rfl

/-! ### make -/
theorem flats_reps {α : Type} {R : α → List Value → Prop} {x : α} {u : List Value} (h : R x u) (n : Nat) : Flats R (List.replicate n x) (List.replicate n u).flatten := flats_replicate h n

theorem zeroRow (z : Array Value) : ∀ (n : Nat), ((Array.range (n * z.size)).map (z[· % z.size]!)).toList = (List.replicate n z.toList).flatten
  | 0 => by simp
  | n + 1 => by
    have ih := zeroRow z n
    rw [List.replicate_succ', List.flatten_append, List.flatten_singleton, ← ih]
    apply List.ext_getElem?
    intro i
    rw [Array.getElem?_toList, Array.getElem?_map]
    by_cases h1 : i < n * z.size
    · rw [List.getElem?_append_left (by simpa using h1), Array.getElem?_toList, Array.getElem?_map, Array.getElem?_range, Array.getElem?_range, if_pos h1, if_pos (by rw [Nat.succ_mul]; omega)]
    · rw [List.getElem?_append_right (by simp; omega), Array.getElem?_range]
      simp only [Array.length_toList, Array.size_map, Array.size_range]
      by_cases h2 : i < (n + 1) * z.size
      · rw [if_pos h2]
        rw [Nat.succ_mul] at h2
        have h3 : i - n * z.size < z.size := by omega
        rw [List.getElem?_eq_getElem (by simpa using h3)]
        have hm : i % z.size = i - n * z.size := by
          have e : z.size * n + (i - n * z.size) = i := by rw [Nat.mul_comm]; omega
          calc i % z.size = (z.size * n + (i - n * z.size)) % z.size := by rw [e]
            _ = i - n * z.size := by rw [Nat.mul_add_mod, Nat.mod_eq_of_lt h3]
        simp only [Option.map_some, hm]
        congr 1
        simp [h3]
      · rw [if_neg h2, List.getElem?_eq_none (by rw [Nat.succ_mul] at h2; simp; omega)]
        rfl

theorem roomOf_le {bytes n : Nat} (h : n ≤ roomOf bytes) (hb : 0 < bytes) : n * bytes ≤ 70368744177664 := by
  unfold roomOf at h
  exact Nat.le_trans (Nat.mul_le_mul_right bytes h) (Nat.div_mul_le_self _ _)
end
end Go.Proofs.Ytdjdbjcapenjeaa.Dx

/- make and append. -/
namespace Go.Proofs.Ytdjdbjcapenjeaa.Dx
open Go Go.RowKit
set_option linter.unusedVariables false
set_option linter.unusedSimpArgs false
section
variable {B : Base} {H : List HObj} {w : World} {I : Nat → Option Obj} {ρ : Nat → Place} {P : Program} {C : Ctx}

theorem bytesT_spec (hT : TabOK C P) {e : TypeId} {i : TI} (h : seek C.ti e = some i) : bytesT C e = i.bytes := by
  unfold bytesT; rw [h]

theorem make_ok (hT : TabOK C P) {id : Nat} (hid : ρ id = .none) {t e : TypeId} (hd : descT C t = .slice e) {τ : Ty} (hz : zeroOf C e = some τ) (hl : lay C e τ = true) {n : Int} (h0 : 0 ≤ n) (hr : n ≤ (roomOf (bytesT C e) : Int)) (kl kc : IntKind) :
    NewOK P I ρ id w (Instr.makeSlice t (.int kl n) (.int kc n)) (fun id => .v .ref (.sl id 0 n.toNat)) (.row τ (List.replicate n.toNat τ.dflt) e) := by
  obtain ⟨i, f, cs, hi, hinfo, hfs, hfb, hzc, hfz⟩ := zeroOf_spec hT hz w
  obtain ⟨j, hj, ha, hs⟩ := lay_spec hl
  rw [hi] at hj
  cases hj
  have hu : P.underlying t = some (.slice e) := by
    obtain ⟨k, hk, hkd⟩ := descT_spec hd (by simp)
    rw [hT.desc t k hk, hkd]
  have hzf := zcells_flat (I := I) (ρ := ρ) τ cs hzc
  have hcl := flat_length τ _ cs hzf
  rw [bytesT_spec hT hi] at hr
  have hroom : n * (i.bytes : Int) ≤ 70368744177664 ∧ n ≤ 70368744177664 := by
    unfold roomOf at hr
    have h1 : n.toNat ≤ 70368744177664 / i.bytes := by omega
    have h2 : n.toNat * i.bytes ≤ 70368744177664 := Nat.le_trans (Nat.mul_le_mul_right _ h1) (Nat.div_mul_le_self _ _)
    have h3 : n.toNat ≤ 70368744177664 := Nat.le_trans h1 (Nat.div_le_self _ _)
    have h4 : n * (i.bytes : Int) = ((n.toNat * i.bytes : Nat) : Int) := by rw [Int.natCast_mul, Int.toNat_of_nonneg h0]
    omega
  have hrun := run_make (P := P) w t e f _ hu hinfo hfz kl kc n n h0 (Int.le_refl _) (by rw [hfb, Int.mul_comm]; omega) (by omega)
  have hzcells : (if τ.agg then Value.agg cs.toArray else cs.headD undef).cells = cs.toArray := by
    have hv := val_zero (I := I) (ρ := ρ) τ cs hzc
    by_cases h : τ.agg = true
    · rw [if_pos h]; rfl
    · rw [if_neg h]
      have hs1 : τ.size = 1 := by cases τ <;> first | rfl | (simp [Ty.agg] at h)
      rw [hs1] at hcl
      obtain ⟨v, rfl⟩ := List.length_eq_one_iff.1 hcl
      exact cells_of_one (flat_one τ _ _ hzf v (by simp))
  have hcells : madeCells (if τ.agg then Value.agg cs.toArray else cs.headD undef).cells (n.toNat * f.size) = ((List.replicate n.toNat cs).flatten ++ []).toArray := by
    rw [hzcells, List.append_nil]
    apply Array.ext'
    have := zeroRow cs.toArray n.toNat
    rw [List.size_toArray] at this
    rw [show n.toNat * f.size = n.toNat * cs.length by rw [hfs, hs, hcl]]
    simpa [madeCells] using this
  rw [hcells] at hrun
  refine row_new hid (spare := []) (c := n.toNat) (flats_reps hzf n.toNat) e ?_ (by simp) (by simp) (Moved.refl w _) rfl hrun
  rw [List.append_nil, List.length_flatten, List.map_replicate, sum_rep, hcl]

/-- What is appended, as the kit's laws take it. -/
theorem more_src (hT : TabOK C P) (hinv : Inv B I ρ H w) {e : TypeId} {τ : Ty} (hsz : τ.size ≠ 0) {x : AV} {v : Value} (hx : AVRel I ρ x v) {ys : List τ.D} (hm : moreD H τ x = some ys) {tx : TypeId} (hk : kindOK C tx x = true) (hc : AllP (moreC H x)) :
    ∃ us, Src P τ.size tx v ys.length us w ∧ Flats (Flat I ρ τ) ys us := by
  have hslice : (match descT C tx with | .slice _ => true | _ => false) = true → ∃ e', P.underlying tx = some (.slice e') := by
    intro h
    split at h
    · rename_i e' hd
      obtain ⟨k, hk, hkd⟩ := descT_spec hd (by simp)
      exact ⟨e', by rw [hT.desc tx k hk, hkd]⟩
    · cases h
  unfold moreD at hm
  split at hm
  · rename_i σ xs
    split at hm
    · rename_i hst
      subst hst
      cases hm
      obtain ⟨e', hu⟩ := hslice hk
      obtain ⟨hr, A, c, e1, h2, h3⟩ := sl_of hx
      cases e1
      have hnil : Src P σ.size tx (.slice A ([] : List σ.D).length c) ([] : List σ.D).length [] w := by
        cases A with
        | none => exact Src.ofNil w hu c
        | some a => exact Src.ofSlice w hu a 0 c [] (by simp) (fun j u hj => by simp at hj) (fun u hu => by cases hu)
      rcases h3 with rfl | ⟨a, us, rfl, hs, him, hfl⟩
      · exact ⟨[], hnil, rfl⟩
      · exact ⟨us, Src.ofSlice w hu a xs.length c us (flats_length (fun x vs h => flat_length σ x vs h) xs us hfl) (fun j u hj => imm_cells hinv him hs j u hj) (flats_all (fun x vs h => flat_one σ x vs h) xs us hfl), hfl⟩
    · cases hm
  · cases hm
    obtain ⟨e', hu⟩ := hslice hk
    cases nl_of hx
    exact ⟨[], Src.ofNil w hu 0, rfl⟩
  · rename_i s
    split at hm
    · rename_i hst
      subst hst
      cases hm
      cases str_of hx
      simp only [kindOK] at hk
      split at hk
      · rename_i hd
        obtain ⟨k, hk', hkd⟩ := descT_spec hd (by simp)
        have hu : P.underlying tx = some .string := by rw [hT.desc tx k hk', hkd]
        refine ⟨byteCells s, ?_, flats_bytes s⟩
        have := Src.ofString (P := P) w hu s
        show Src P 1 tx (.string s) (bytesOf s).length (byteCells s) w
        rw [bytesOf_length]
        exact this
      · cases hk
    · cases hm
  · rename_i b off len
    split at hm
    · rename_i σ xs t hb
      split at hm
      · rename_i hst
        subst hst
        cases hm
        obtain ⟨e', hu⟩ := hslice hk
        simp only [moreC, hb] at hc
        have hlen : off + len ≤ xs.length := hc.1
        have hys : ((xs.drop off).take len).length = len := by simp; omega
        have hr := ref_of hx
        simp only [RefRel] at hr
        rcases hinv.own b _ hb with ⟨h1, rfl⟩ | ⟨g, c, us, spare, h1, h2, h3, h4, h5⟩
        · rw [h1] at hr
          obtain ⟨_, rfl, rfl⟩ := hr
          exact ⟨[], by simpa using Src.ofNil w hu 0, by simp [Flats]⟩
        · rw [h1] at hr
          obtain ⟨a, h6, rfl, h7, h8, h9⟩ := hr
          obtain ⟨u1, u2, rfl, _, k2, k3⟩ := flats_split (fun x vs h => flat_length σ x vs h) off xs us h5
          obtain ⟨u3, u4, rfl, k4, _, k5⟩ := flats_split (fun x vs h => flat_length σ x vs h) len (xs.drop off) u2 k2
          refine ⟨u3, ?_, k4⟩
          rw [hys]
          refine Src.ofSlice w hu a len (c - off) u3 (k5 (by simp; omega)) (fun j u hj => ?_) (flats_all (fun x vs h => flat_one σ x vs h) _ u3 k4)
          have hu3 : u3 ≠ [] := by rintro rfl; simp at hj
          have hlt : off < c := by
            rcases Nat.lt_or_ge off c with h | h
            · exact h
            · have : len = 0 := by omega
              subst this
              have := k5 (by simp)
              simp at this
              exact absurd this hu3
          subst h7
          refine cells_at (pre := u1) (us := u3) (post := u4 ++ spare) h2 h8 (by simp [List.append_assoc]) ?_ j u hj
          rw [k3 (by omega), h9 hlt]
      · cases hm
    · cases hm
  · cases hm
end
end Go.Proofs.Ytdjdbjcapenjeaa.Dx

