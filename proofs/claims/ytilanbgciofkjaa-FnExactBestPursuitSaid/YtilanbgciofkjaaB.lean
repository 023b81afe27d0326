/- Sets of vertices as numbers: the operations on them, and valid graphs. No program here. -/
import Derived.Test.YtilanbgciofkjaaWMore
import Derived.Laws.BitsLemmas
namespace Go.Proofs.Ytilanbgciofkjaa.Pure
open Go.RowKit Go.Proofs.YtilanbgciofkjaaW.PrintWords Go.Proofs.YtilanbgciofkjaaW.PrintLast
set_option linter.unusedVariables false
set_option linter.unusedSimpArgs false

theorem wrap_nat (n : Nat) (h : n < 2 ^ 63) : wrap64 (n : Int) = (n : Int) := by unfold wrap64; omega
theorem wrap_lt (n : Int) (h0 : 0 ≤ n) (h1 : n < 2 ^ 63) : IntKind.i64.wrap n = n := by rw [i64_w]; unfold wrap64; omega
theorem bAnd (a b : Nat) (ha : a < 2 ^ 63) (hb : b < 2 ^ 63) : Go.bits .and .i64 (a : Int) (b : Int) = ((a &&& b : Nat) : Int) := (bits_nat .i64 63 (by decide) wrap_lt a b ha hb).1
theorem bOr (a b : Nat) (ha : a < 2 ^ 63) (hb : b < 2 ^ 63) : Go.bits .or .i64 (a : Int) (b : Int) = ((a ||| b : Nat) : Int) := (bits_nat .i64 63 (by decide) wrap_lt a b ha hb).2
/-- what of a is not in b -/
def dif (a b : Nat) : Nat := a &&& (a ^^^ b)
theorem dif_bit (a b i : Nat) : (dif a b).testBit i = (a.testBit i && !b.testBit i) := by
  unfold dif
  rw [Nat.testBit_and, Nat.testBit_xor]
  cases a.testBit i <;> cases b.testBit i <;> rfl
theorem bDif (a b : Nat) (ha : a < 2 ^ 63) (hb : b < 2 ^ 63) : Go.bits .andNot .i64 (a : Int) (b : Int) = ((dif a b : Nat) : Int) := by
  have ha' : a % 2 ^ 64 = a := Nat.mod_eq_of_lt (by omega)
  have hb' : b % 2 ^ 64 = b := Nat.mod_eq_of_lt (by omega)
  have e : (BitVec.ofInt 64 (a : Int) &&& ~~~ BitVec.ofInt 64 (b : Int)).toNat = dif a b := by
    apply Nat.eq_of_testBit_eq
    intro i
    rw [dif_bit]
    simp only [BitVec.ofInt_natCast, BitVec.toNat_and, Nat.testBit_and, BitVec.testBit_toNat, BitVec.getLsbD_not, BitVec.getLsbD_ofNat]
    by_cases hi : i < 64
    · simp [hi]
    · have : a.testBit i = false := Nat.testBit_lt_two_pow (Nat.lt_of_lt_of_le ha (Nat.pow_le_pow_right (by decide) (by omega)))
      simp [hi, this]
  show IntKind.i64.wrap _ = _
  rw [show (IntKind.i64.bits) = 64 from rfl] at *
  simp only [e]
  exact wrap_lt _ (Int.natCast_nonneg _) (by
    have : dif a b ≤ a := Nat.and_le_left
    omega)
theorem sShl (v : Nat) (h : v < 62) : shl .i64 1 (v : Int) = ((2 ^ v : Nat) : Int) := by
  unfold shl
  have : (2 : Nat) ^ v < 2 ^ 62 := Nat.pow_lt_pow_right (by decide) h
  rw [show ((v : Int)).toNat = v from by omega, show IntKind.i64.bits = 64 from rfl, Nat.min_eq_left (by omega), Int.one_mul]
  rw [show (2 : Int) ^ v = ((2 ^ v : Nat) : Int) from by simp]
  generalize (2 : Nat) ^ v = m at this ⊢
  exact wrap_lt _ (by omega) (by omega)
theorem sShr (a v : Nat) (h : v ≤ 64) : shr .i64 (a : Int) (v : Int) = ((a / 2 ^ v : Nat) : Int) := by
  unfold shr
  rw [show ((v : Int)).toNat = v from by omega, show IntKind.i64.bits = 64 from rfl, Nat.min_eq_left h]
  simp
theorem two_bit (v i : Nat) : (2 ^ v : Nat).testBit i = decide (v = i) := Nat.testBit_two_pow
theorem and_one (x : Nat) : (x &&& 1 : Nat) = x % 2 := Nat.and_one_is_mod x
theorem and_two_pow_ne (a v : Nat) : ((a &&& 2 ^ v : Nat) != 0) = a.testBit v := by
  cases h : a.testBit v with
  | false =>
    have : a &&& 2 ^ v = 0 := by
      apply Nat.eq_of_testBit_eq
      intro i
      rw [Nat.testBit_and, two_bit]
      by_cases e : v = i
      · subst e; simp [h]
      · simp [e]
    simp [this]
  | true =>
    have : (a &&& 2 ^ v).testBit v = true := by rw [Nat.testBit_and, two_bit]; simp [h]
    have hne : a &&& 2 ^ v ≠ 0 := fun h0 => by rw [h0] at this; simp at this
    simpa using hne
theorem shr_and_one (a v : Nat) : (((a / 2 ^ v : Nat) &&& 1 : Nat) == 1) = a.testBit v := by
  rw [and_one, Nat.testBit_eq_decide_div_mod_eq, Bool.eq_iff_iff]
  simp
theorem lt_two_pow_bits (s n : Nat) (h : ∀ i, n ≤ i → s.testBit i = false) : s < 2 ^ n := Nat.lt_pow_two_of_testBit s h
theorem bit_lt (s n i : Nat) (h : s < 2 ^ n) (hi : n ≤ i) : s.testBit i = false := Nat.testBit_lt_two_pow (Nat.lt_of_lt_of_le h (Nat.pow_le_pow_right (by decide) hi))
theorem bit_in (s n i : Nat) (h : s < 2 ^ n) (hb : s.testBit i = true) : i < n := by
  apply Decidable.byContradiction
  intro hi
  rw [bit_lt s n i h (by omega)] at hb
  cases hb

/-- the vertices of a set below 2^8, ascending, from i on -/
def elemsFrom (s : Nat) : Nat → Nat → List Int
  | 0, _ => []
  | d + 1, i => if s.testBit i then (i : Int) :: elemsFrom s d (i + 1) else elemsFrom s d (i + 1)
def elems (s : Nat) : List Int := elemsFrom s 8 0
theorem mem_elemsFrom (s : Nat) (x : Int) : ∀ d i, x ∈ elemsFrom s d i ↔ ∃ v : Nat, x = (v : Int) ∧ i ≤ v ∧ v < i + d ∧ s.testBit v = true
  | 0, i => by simp [elemsFrom]; omega
  | d + 1, i => by
    have ih := mem_elemsFrom s x d (i + 1)
    unfold elemsFrom
    cases h : s.testBit i with
    | true =>
      simp only [if_true, List.mem_cons, ih]
      constructor
      · rintro (rfl | ⟨v, rfl, h1, h2, h3⟩)
        · exact ⟨i, rfl, by omega, by omega, h⟩
        · exact ⟨v, rfl, by omega, by omega, h3⟩
      · rintro ⟨v, rfl, h1, h2, h3⟩
        by_cases e : v = i
        · exact .inl (by rw [e])
        · exact .inr ⟨v, rfl, by omega, by omega, h3⟩
    | false =>
      simp only [Bool.false_eq_true, if_false, ih]
      constructor
      · rintro ⟨v, rfl, h1, h2, h3⟩
        exact ⟨v, rfl, by omega, by omega, h3⟩
      · rintro ⟨v, rfl, h1, h2, h3⟩
        have : v ≠ i := fun e => by rw [e, h] at h3; cases h3
        exact ⟨v, rfl, by omega, by omega, h3⟩
theorem mem_elems (s : Nat) (x : Int) : x ∈ elems s ↔ ∃ v : Nat, x = (v : Int) ∧ v < 8 ∧ s.testBit v = true := by
  unfold elems
  rw [mem_elemsFrom]
  constructor
  · rintro ⟨v, h1, _, h2, h3⟩; exact ⟨v, h1, by omega, h3⟩
  · rintro ⟨v, h1, h2, h3⟩; exact ⟨v, h1, by omega, by omega, h3⟩
theorem elemsFrom_len (s : Nat) : ∀ d i, (elemsFrom s d i).length ≤ d
  | 0, i => by simp [elemsFrom]
  | d + 1, i => by
    have ih := elemsFrom_len s d (i + 1)
    unfold elemsFrom
    split
    · simp; omega
    · omega
theorem elems_len (s : Nat) : (elems s).length ≤ 8 := elemsFrom_len s 8 0

/-- a valid graph of n vertices, rows as sets -/
structure GOk (n : Int) (l : List Int) : Prop where
  lo : 1 ≤ n
  hi : n ≤ 8
  len : (l.length : Int) = n
  row0 : ∀ v, v < l.length → 0 ≤ l.getD v 0
  row1 : ∀ v, v < l.length → l.getD v 0 < 2 ^ l.length
  own : ∀ v, v < l.length → (l.getD v 0).toNat.testBit v = false
  sym : ∀ v w, v < l.length → w < l.length → (l.getD v 0).toNat.testBit w = (l.getD w 0).toNat.testBit v
/-- a row as a set -/
def row (l : List Int) (v : Nat) : Nat := (l.getD v 0).toNat
theorem GOk.row_eq {n : Int} {l : List Int} (g : GOk n l) (v : Nat) (hv : v < l.length) : l.getD v 0 = (row l v : Int) := by
  have := g.row0 v hv
  unfold row; omega
theorem GOk.row_lt {n : Int} {l : List Int} (g : GOk n l) (v : Nat) (hv : v < l.length) : row l v < 2 ^ l.length := by
  have h0 := g.row0 v hv
  have h1 := g.row1 v hv
  have : ((2 ^ l.length : Nat) : Int) = (2 : Int) ^ l.length := by simp
  unfold row; omega
theorem GOk.len8 {n : Int} {l : List Int} (g : GOk n l) : l.length ≤ 8 := by have := g.hi; have := g.len; omega
theorem GOk.len1 {n : Int} {l : List Int} (g : GOk n l) : 1 ≤ l.length := by have := g.lo; have := g.len; omega
theorem pow8 (n : Nat) (h : n ≤ 8) : (2 : Nat) ^ n ≤ 256 := Nat.pow_le_pow_right (n := 2) (by decide) h
theorem GOk.row_lt8 {n : Int} {l : List Int} (g : GOk n l) (v : Nat) (hv : v < l.length) : row l v < 256 := Nat.lt_of_lt_of_le (g.row_lt v hv) (pow8 _ g.len8)
theorem rd_nat (l : List Int) (i : Nat) : rd l (i : Int) = l.getD i 0 := rfl
end Go.Proofs.Ytilanbgciofkjaa.Pure
