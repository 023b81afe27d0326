/- Texts that other texts share. -/
import Derived.Test.YtilanbgciofkjaaWMore
import Derived.Laws.BitsLemmas
import Derived.Test.YtilanbgciofkjaaPAx1
import Derived.Test.YtilanbgciofkjaaPAx0
import Derived.Test.YtilanbgciofkjaaPAx7
import Derived.Test.YtilanbgciofkjaaPAx8
import Derived.Test.YtilanbgciofkjaaPAx10
import Derived.Test.YtilanbgciofkjaaPAx9
namespace Go.Proofs.Ytilanbgciofkjaa.Pure
open Go.RowKit Go.Proofs.YtilanbgciofkjaaW.PrintWords Go.Proofs.YtilanbgciofkjaaW.PrintLast
set_option linter.unusedVariables false
set_option linter.unusedSimpArgs false

theorem wrap_lt (n : Int) (h0 : 0 ≤ n) (h1 : n < 2 ^ 63) : IntKind.i64.wrap n = n := by rw [i64_w]; unfold wrap64; omega
theorem bAnd (a b : Nat) (ha : a < 2 ^ 63) (hb : b < 2 ^ 63) : Go.bits .and .i64 (a : Int) (b : Int) = ((a &&& b : Nat) : Int) := (bits_nat .i64 63 (by decide) wrap_lt a b ha hb).1
theorem bOr (a b : Nat) (ha : a < 2 ^ 63) (hb : b < 2 ^ 63) : Go.bits .or .i64 (a : Int) (b : Int) = ((a ||| b : Nat) : Int) := (bits_nat .i64 63 (by decide) wrap_lt a b ha hb).2
theorem sShl (v : Nat) (h : v < 62) : shl .i64 1 (v : Int) = ((2 ^ v : Nat) : Int) := by
  unfold shl
  have : (2 : Nat) ^ v < 2 ^ 62 := Nat.pow_lt_pow_right (by decide) h
  rw [show ((v : Int)).toNat = v from by omega, show IntKind.i64.bits = 64 from rfl, Nat.min_eq_left (by omega), Int.one_mul]
  rw [show (2 : Int) ^ v = ((2 ^ v : Nat) : Int) from by simp]
  generalize (2 : Nat) ^ v = m at this ⊢
  exact wrap_lt _ (by omega) (by omega)
theorem sShr (a v : Nat) (h : v ≤ 64) : shr .i64 (a : Int) (v : Int) = ((a / 2 ^ v : Nat) : Int) := by
  unfold shr
  rw [show ((v : Int)).toNat = v from by omega, show IntKind.i64.bits = 64 from rfl, Nat.min_eq_left h]
  simp
theorem two_bit (v i : Nat) : (2 ^ v : Nat).testBit i = decide (v = i) := Nat.testBit_two_pow
theorem and_one (x : Nat) : (x &&& 1 : Nat) = x % 2 := Nat.and_one_is_mod x
theorem shr_and_one (a v : Nat) : (((a / 2 ^ v : Nat) &&& 1 : Nat) == 1) = a.testBit v := by
  rw [and_one, Nat.testBit_eq_decide_div_mod_eq, Bool.eq_iff_iff]
  simp
theorem bit_lt (s n i : Nat) (h : s < 2 ^ n) (hi : n ≤ i) : s.testBit i = false := Nat.testBit_lt_two_pow (Nat.lt_of_lt_of_le h (Nat.pow_le_pow_right (by decide) hi))
theorem bit_in (s n i : Nat) (h : s < 2 ^ n) (hb : s.testBit i = true) : i < n := by
  apply Decidable.byContradiction
  intro hi
  rw [bit_lt s n i h (by omega)] at hb
  cases hb

/-- the vertices of a set below 2^8, ascending, from i on -/
def elemsFrom (s : Nat) : Nat → Nat → List Int
  | 0, _ => []
  | d + 1, i => if s.testBit i then (i : Int) :: elemsFrom s d (i + 1) else elemsFrom s d (i + 1)
def elems (s : Nat) : List Int := elemsFrom s 8 0
theorem mem_elemsFrom (s : Nat) (x : Int) : ∀ d i, x ∈ elemsFrom s d i ↔ ∃ v : Nat, x = (v : Int) ∧ i ≤ v ∧ v < i + d ∧ s.testBit v = true
  | 0, i => by simp [elemsFrom]; omega
  | d + 1, i => by
    have ih := mem_elemsFrom s x d (i + 1)
    unfold elemsFrom
    cases h : s.testBit i with
    | true =>
      simp only [if_true, List.mem_cons, ih]
      constructor
      · rintro (rfl | ⟨v, rfl, h1, h2, h3⟩)
        · exact ⟨i, rfl, by omega, by omega, h⟩
        · exact ⟨v, rfl, by omega, by omega, h3⟩
      · rintro ⟨v, rfl, h1, h2, h3⟩
        by_cases e : v = i
        · exact .inl (by rw [e])
        · exact .inr ⟨v, rfl, by omega, by omega, h3⟩
    | false =>
      simp only [Bool.false_eq_true, if_false, ih]
      constructor
      · rintro ⟨v, rfl, h1, h2, h3⟩
        exact ⟨v, rfl, by omega, by omega, h3⟩
      · rintro ⟨v, rfl, h1, h2, h3⟩
        have : v ≠ i := fun e => by rw [e, h] at h3; cases h3
        exact ⟨v, rfl, by omega, by omega, h3⟩
theorem mem_elems (s : Nat) (x : Int) : x ∈ elems s ↔ ∃ v : Nat, x = (v : Int) ∧ v < 8 ∧ s.testBit v = true := by
  unfold elems
  rw [mem_elemsFrom]
  constructor
  · rintro ⟨v, h1, _, h2, h3⟩; exact ⟨v, h1, by omega, h3⟩
  · rintro ⟨v, h1, h2, h3⟩; exact ⟨v, h1, by omega, by omega, h3⟩
theorem elemsFrom_len (s : Nat) : ∀ d i, (elemsFrom s d i).length ≤ d
  | 0, i => by simp [elemsFrom]
  | d + 1, i => by
    have ih := elemsFrom_len s d (i + 1)
    unfold elemsFrom
    split
    · simp; omega
    · omega
theorem elems_len (s : Nat) : (elems s).length ≤ 8 := elemsFrom_len s 8 0

/-- a valid graph of n vertices, rows as sets -/
structure GOk (n : Int) (l : List Int) : Prop where
  lo : 1 ≤ n
  hi : n ≤ 8
  len : (l.length : Int) = n
  row0 : ∀ v, v < l.length → 0 ≤ l.getD v 0
  row1 : ∀ v, v < l.length → l.getD v 0 < 2 ^ l.length
  own : ∀ v, v < l.length → (l.getD v 0).toNat.testBit v = false
  sym : ∀ v w, v < l.length → w < l.length → (l.getD v 0).toNat.testBit w = (l.getD w 0).toNat.testBit v
/-- a row as a set -/
def row (l : List Int) (v : Nat) : Nat := (l.getD v 0).toNat
theorem GOk.row_eq {n : Int} {l : List Int} (g : GOk n l) (v : Nat) (hv : v < l.length) : l.getD v 0 = (row l v : Int) := by
  have := g.row0 v hv
  unfold row; omega
theorem GOk.row_lt {n : Int} {l : List Int} (g : GOk n l) (v : Nat) (hv : v < l.length) : row l v < 2 ^ l.length := by
  have h0 := g.row0 v hv
  have h1 := g.row1 v hv
  have : ((2 ^ l.length : Nat) : Int) = (2 : Int) ^ l.length := by simp
  unfold row; omega
theorem GOk.len8 {n : Int} {l : List Int} (g : GOk n l) : l.length ≤ 8 := by have := g.hi; have := g.len; omega
theorem pow8 (n : Nat) (h : n ≤ 8) : (2 : Nat) ^ n ≤ 256 := Nat.pow_le_pow_right (n := 2) (by decide) h
theorem GOk.row_lt8 {n : Int} {l : List Int} (g : GOk n l) (v : Nat) (hv : v < l.length) : row l v < 256 := Nat.lt_of_lt_of_le (g.row_lt v hv) (pow8 _ g.len8)
theorem rd_nat (l : List Int) (i : Nat) : rd l (i : Int) = l.getD i 0 := rfl
end Go.Proofs.Ytilanbgciofkjaa.Pure

namespace Go.Proofs.Ytilanbgciofkjaa.Pure
open Go.RowKit Go.Proofs.YtilanbgciofkjaaW.PrintWords Go.Proofs.YtilanbgciofkjaaW.PrintLast Go.Proofs.Ytilanbgciofkjaa.PA
set_option linter.unusedVariables false
set_option linter.unusedSimpArgs false

theorem in_impl (a lo hi : Int) : impl_in.f a lo hi = some (decide (lo ≤ a ∧ a ≤ hi)) := by
  unfold impl_in.f
  by_cases h : lo ≤ a
  · rw [if_pos h]; congr 1; rw [Bool.eq_iff_iff]; simp; omega
  · rw [if_neg h]; congr 1; rw [Bool.eq_iff_iff]; simp; omega
theorem has_impl (s v : Nat) (hs : s < 2 ^ 63) (hv : v < 62) : impl_has.f (s : Int) (v : Int) = some (s.testBit v) := by
  unfold impl_has.f
  have h2 : s / 2 ^ v < 2 ^ 63 := Nat.lt_of_le_of_lt (Nat.div_le_self _ _) hs
  rw [if_pos (by omega), sShr s v (by omega), show (1 : Int) = ((1 : Nat) : Int) from rfl, bAnd _ _ h2 (by decide), ← shr_and_one]
  congr 1
  generalize s / 2 ^ v &&& 1 = z
  rw [Bool.eq_iff_iff]; simp; omega
theorem bit_impl (v : Nat) (hv : v < 62) : impl_bit.f (v : Int) = some ((2 ^ v : Nat) : Int) := by
  unfold impl_bit.f; rw [if_pos (by omega), sShl v hv]
theorem two_wrap (n : Nat) (h : n < 62) : wrap64 (((2 ^ n : Nat) : Int) - 1) = ((2 ^ n : Nat) : Int) - 1 := by
  have : (2 : Nat) ^ n < 2 ^ 62 := Nat.pow_lt_pow_right (by decide) h
  have h1 : 1 ≤ (2 : Nat) ^ n := Nat.one_le_two_pow
  unfold wrap64; omega
theorem all_impl (n : Nat) (l : List Int) (h : n < 62) : impl_Graph_all.f (n : Int) l = some (((2 ^ n : Nat) : Int) - 1) := by
  unfold impl_Graph_all.f; rw [bit_impl n h, Option.bind_some, two_wrap n h]
theorem wsucc (w : Nat) (h : w ≤ 4000000) : wrap64 ((w : Int) + 1) = ((w + 1 : Nat) : Int) := by unfold wrap64; omega

def rowg (l : List Int) (v : Nat) : Prop := 0 ≤ l.getD v 0 ∧ l.getD v 0 < ((2 ^ l.length : Nat) : Int) ∧ (l.getD v 0).toNat.testBit v = false
def symg (l : List Int) (v w : Nat) : Prop := (l.getD v 0).toNat.testBit w = (l.getD w 0).toNat.testBit v
section
variable {n : Nat} {l : List Int} (hl : l.length = n) (h8 : n ≤ 8)
include hl h8

theorem iG_l2 (hrow : ∀ v, v < n → 0 ≤ l.getD v 0 ∧ l.getD v 0 < ((2 ^ n : Nat) : Int)) (v : Nat) (hv : v < n) (b : Bool) (h1 : (∀ u, u < n → symg l v u) → Ev (fun k => impl_GraphOk.l1 k l (n : Int) ((v + 1 : Nat) : Int) (n : Int) l) b) (h2 : ¬ (∀ u, u < n → symg l v u) → b = false) :
    ∀ d w, w + d = n → (∀ u, u < w → symg l v u) → Ev (fun k => impl_GraphOk.l2 k (v : Int) (l.getD v 0) l (n : Int) (v : Int) l (n : Int) (w : Int) (n : Int) l) b
  | 0, w, hw, hs => by
    refine Ev.step (fun k => ?_) (h1 (fun u hu => hs u (by omega)))
    rw [impl_GraphOk.l2.eq_2, if_neg (by omega), wsucc v (by omega)]
  | d + 1, w, hw, hs => by
    have p8 := pow8 n h8
    obtain ⟨a, ha⟩ : ∃ a : Nat, l.getD v 0 = (a : Int) := ⟨(l.getD v 0).toNat, by have := hrow v hv; omega⟩
    obtain ⟨c, hc⟩ : ∃ c : Nat, l.getD w 0 = (c : Int) := ⟨(l.getD w 0).toNat, by have := hrow w (by omega); omega⟩
    have hav := hrow v hv
    have hcw := hrow w (by omega)
    have e1 : impl_has.f (l.getD v 0) (w : Int) = some (a.testBit w) := by rw [ha]; exact has_impl a w (by omega) (by omega)
    have e2 : impl_has.f (l.getD w 0) (v : Int) = some (c.testBit v) := by rw [hc]; exact has_impl c v (by omega) (by omega)
    by_cases hs1 : symg l v w
    · refine Ev.step (fun k => ?_) (iG_l2 hrow v hv b h1 h2 d (w + 1) (by omega) (fun u hu => if e : u = w then e ▸ hs1 else hs u (by omega)))
      have hq : a.testBit w = c.testBit v := by unfold symg at hs1; rw [ha, hc] at hs1; exact hs1
      rw [impl_GraphOk.l2.eq_2, if_pos (by omega)]
      rw [if_pos (by omega), if_pos (by omega), e1, Option.bind_some, rd_nat, e2, Option.bind_some]
      rw [if_neg (by rw [hq]; simp), wsucc w (by omega)]
    · have hb : b = false := h2 (fun hall => hs1 (hall w (by omega)))
      subst hb
      refine Ev.step (fun k => ?_) (Ev.now false)
      have hq : ¬ a.testBit w = c.testBit v := by unfold symg at hs1; rw [ha, hc] at hs1; exact hs1
      rw [impl_GraphOk.l2.eq_2, if_pos (by omega)]
      rw [if_pos (by omega), if_pos (by omega), e1, Option.bind_some, rd_nat, e2, Option.bind_some]
      rw [if_pos (by simpa using hq)]
open Classical in
theorem iG_l1 (hrow : ∀ v, v < n → 0 ≤ l.getD v 0 ∧ l.getD v 0 < ((2 ^ n : Nat) : Int)) :
    ∀ d v, v + d = n → Ev (fun k => impl_GraphOk.l1 k l (n : Int) (v : Int) (n : Int) l) (decide (∀ x y, v ≤ x → x < n → y < n → symg l x y))
  | 0, v, hv => by
    refine Ev.step (fun k => ?_) (Ev.now _)
    rw [impl_GraphOk.l1.eq_2, if_neg (by omega)]
    congr 1
    rw [eq_comm, decide_eq_true_eq]
    intro x y h1 h2; omega
  | d + 1, v, hv => by
    have ih := iG_l1 hrow d (v + 1) (by omega)
    have e0 : (l.length : Int) = (n : Int) := by omega
    refine Ev.step (fun k => ?_) (iG_l2 hl h8 hrow v (by omega) _ (fun hall => ?_) (fun hno => ?_) n 0 (by omega) (fun u hu => absurd hu (Nat.not_lt_zero _)))
    · rw [impl_GraphOk.l1.eq_2, if_pos (by omega), if_pos (by omega), if_pos (by omega), rd_nat, e0]; rfl
    · refine ⟨ih.choose, fun k hk => ?_⟩
      rw [ih.choose_spec k hk]
      congr 1
      rw [Bool.eq_iff_iff, decide_eq_true_eq, decide_eq_true_eq]
      constructor
      · intro h x y h1 h2 h3
        by_cases e : x = v
        · subst e; exact hall y h3
        · exact h x y (by omega) h2 h3
      · intro h x y h1 h2 h3; exact h x y (by omega) h2 h3
    · rw [decide_eq_false_iff_not]
      intro h; exact hno (fun u hu => h v u (Nat.le_refl _) (by omega) hu)
open Classical in
theorem iG_l0 (h1 : 1 ≤ n) : ∀ d v, v + d = n → (∀ x, x < v → rowg l x) → Ev (fun k => impl_GraphOk.l0 k l (n : Int) (v : Int) (n : Int) l) (decide ((∀ x, x < n → rowg l x) ∧ ∀ x y, x < n → y < n → symg l x y))
  | 0, v, hv, hr => by
    have hrow : ∀ v, v < n → 0 ≤ l.getD v 0 ∧ l.getD v 0 < ((2 ^ n : Nat) : Int) := fun x hx => by have := hr x (by omega); unfold rowg at this; rw [hl] at this; exact ⟨this.1, this.2.1⟩
    have e0 : (l.length : Int) = (n : Int) := by omega
    have h := iG_l1 hl h8 hrow n 0 (by omega)
    refine Ev.step (fun k => ?_) (⟨h.choose, fun k hk => ?_⟩ : Ev (fun k => impl_GraphOk.l1 k l (n : Int) (0 : Int) (n : Int) l) _)
    · rw [impl_GraphOk.l0.eq_2, if_neg (by omega), e0]
    · rw [show (0 : Int) = ((0 : Nat) : Int) from rfl, h.choose_spec k hk]
      congr 1
      rw [Bool.eq_iff_iff, decide_eq_true_eq, decide_eq_true_eq]
      exact ⟨fun h => ⟨fun x hx => hr x (by omega), fun x y h1 h2 => h x y (Nat.zero_le _) h1 h2⟩, fun h x y _ h1 h2 => h.2 x y h1 h2⟩
  | d + 1, v, hv, hr => by
    have e0 : (l.length : Int) = (n : Int) := by omega
    have p8 := pow8 n h8
    have hin : impl_in.f (l.getD v 0) 0 (((2 ^ n : Nat) : Int) - 1) = some (decide (0 ≤ l.getD v 0 ∧ l.getD v 0 ≤ ((2 ^ n : Nat) : Int) - 1)) := in_impl _ _ _
    by_cases hg : rowg l v
    · refine Ev.step (fun k => ?_) (iG_l0 h1 d (v + 1) (by omega) (fun x hx => if e : x = v then e ▸ hg else hr x (by omega)))
      obtain ⟨g1, g2, g3⟩ := hg
      rw [hl] at g2
      obtain ⟨a, ha⟩ : ∃ a : Nat, l.getD v 0 = (a : Int) := ⟨(l.getD v 0).toNat, by omega⟩
      rw [ha] at g1 g2 g3 hin
      have e1 : impl_has.f (a : Int) (v : Int) = some false := by rw [has_impl a v (by omega) (by omega)]; congr 1
      rw [decide_eq_true (by omega)] at hin
      rw [impl_GraphOk.l0.eq_2, if_pos (by omega), if_pos (by omega), if_pos (by omega), rd_nat, ha]
      rw [all_impl n l (by omega), Option.bind_some]
      rw [hin, Option.bind_some, if_pos rfl, e1, Option.bind_some, if_neg (by simp), wsucc v (by omega)]
    · rw [decide_eq_false (fun h => hg (h.1 v (by omega)))]
      refine Ev.step (fun k => ?_) (Ev.now false)
      rw [impl_GraphOk.l0.eq_2, if_pos (by omega), if_pos (by omega), if_pos (by omega), rd_nat]
      rw [all_impl n l (by omega), Option.bind_some]
      rw [hin, Option.bind_some]
      by_cases hz : 0 ≤ l.getD v 0 ∧ l.getD v 0 ≤ ((2 ^ n : Nat) : Int) - 1
      · obtain ⟨a, ha⟩ : ∃ a : Nat, l.getD v 0 = (a : Int) := ⟨(l.getD v 0).toNat, by omega⟩
        rw [decide_eq_true hz, if_pos rfl, ha]
        have e1 : impl_has.f (a : Int) (v : Int) = some true := by
          rw [has_impl a v (by omega) (by omega)]; congr 1
          cases hb : a.testBit v with
          | true => rfl
          | false => exact absurd ⟨hz.1, by rw [hl]; omega, by rw [ha]; exact hb⟩ hg
        rw [e1, Option.bind_some, if_pos rfl]
      · rw [decide_eq_false hz, if_neg (by simp)]
end
theorem GOk_iff (n : Int) (l : List Int) (h1 : 1 ≤ n) (h8 : n ≤ 8) (hl : (l.length : Int) = n) : GOk n l ↔ ((∀ x, x < l.length → rowg l x) ∧ ∀ x y, x < l.length → y < l.length → symg l x y) := by
  have e : ((2 ^ l.length : Nat) : Int) = (2 : Int) ^ l.length := by simp
  constructor
  · intro g
    exact ⟨fun x hx => ⟨g.row0 x hx, by rw [e]; exact g.row1 x hx, g.own x hx⟩, fun x y hx hy => g.sym x y hx hy⟩
  · intro g
    exact ⟨h1, h8, hl, fun v hv => (g.1 v hv).1, fun v hv => by have := (g.1 v hv).2.1; rw [e] at this; exact this, fun v hv => (g.1 v hv).2.2, fun v w hv hw => g.2 v w hv hw⟩
open Classical in
theorem graph_impl (n : Int) (l : List Int) : Ev (fun k => impl_GraphOk.f k n l) (decide (GOk n l)) := by
  by_cases hr : 1 ≤ n ∧ n ≤ 8
  · by_cases hl : (l.length : Int) = n
    · obtain ⟨m, rfl⟩ : ∃ m : Nat, n = (m : Int) := ⟨n.toNat, by omega⟩
      have hl' : l.length = m := by omega
      have h := iG_l0 hl' (by omega) (by omega) m 0 (by omega) (fun x hx => absurd hx (Nat.not_lt_zero _))
      refine ⟨h.choose + 1, fun k hk => ?_⟩
      obtain ⟨k, rfl⟩ : ∃ j, k = j + 1 := ⟨k - 1, by omega⟩
      show impl_GraphOk.f (k + 1) _ _ = _
      unfold impl_GraphOk.f
      rw [in_impl, decide_eq_true hr, Option.bind_some, if_pos rfl, impl_GraphOk.j0.eq_2, hl, if_neg (by simp)]
      have h2 := h.choose_spec k (by omega)
      rw [show ((0 : Nat) : Int) = 0 from rfl] at h2
      refine h2.trans ?_
      congr 1
      rw [Bool.eq_iff_iff, decide_eq_true_eq, decide_eq_true_eq, GOk_iff _ _ hr.1 hr.2 hl, hl']
    · refine ⟨1, fun k hk => ?_⟩
      obtain ⟨k, rfl⟩ : ∃ j, k = j + 1 := ⟨k - 1, by omega⟩
      show impl_GraphOk.f (k + 1) _ _ = _
      unfold impl_GraphOk.f
      rw [in_impl, decide_eq_true hr, Option.bind_some, if_pos rfl, impl_GraphOk.j0.eq_2, if_pos (by simpa using hl), decide_eq_false (fun g => hl g.len)]
  · refine ⟨1, fun k hk => ?_⟩
    obtain ⟨k, rfl⟩ : ∃ j, k = j + 1 := ⟨k - 1, by omega⟩
    show impl_GraphOk.f (k + 1) _ _ = _
    unfold impl_GraphOk.f
    rw [in_impl, decide_eq_false hr, Option.bind_some, if_neg (by simp), impl_GraphOk.j0.eq_2, if_pos rfl, decide_eq_false (fun g => hr ⟨g.lo, g.hi⟩)]
open Classical in
theorem graph_impl_t {n : Int} {l : List Int} (g : GOk n l) : Ev (fun k => impl_GraphOk.f k n l) true := by have := graph_impl n l; rwa [decide_eq_true g] at this
open Classical in
theorem graph_impl_f {n : Int} {l : List Int} (g : ¬ GOk n l) : Ev (fun k => impl_GraphOk.f k n l) false := by have := graph_impl n l; rwa [decide_eq_false g] at this
end Go.Proofs.Ytilanbgciofkjaa.Pure

namespace Go.Proofs.Ytilanbgciofkjaa.Pure
open Go.RowKit Go.Proofs.YtilanbgciofkjaaW.PrintWords Go.Proofs.YtilanbgciofkjaaW.PrintLast Go.Proofs.Ytilanbgciofkjaa.PA
set_option linter.unusedVariables false
set_option linter.unusedSimpArgs false

theorem getD_mem (L : List Int) (i : Nat) (h : i < L.length) : L.getD i 0 ∈ L := by
  simp [List.getD_eq_getElem?_getD, List.getElem?_eq_getElem h]
theorem Ev.here {R : Type} {g : Nat → Option R} {r : R} (h : ∀ k, g (k + 1) = some r) : Ev g r := Ev.step h (Ev.now r)
theorem list_impl_l0 (s : Nat) (hs : s < 2 ^ 62) : ∀ (d i : Nat) (acc : List Int), i + d = 8 → acc.length ≤ 100 + i → Ev (fun k => impl_ListSet.l0 k (s : Int) acc (i : Int)) (acc ++ elemsFrom s d i)
  | 0, i, acc, hi, ha => by
    refine Ev.step (fun k => ?_) (Ev.now _)
    rw [impl_ListSet.l0.eq_2, if_neg (by omega)]; simp [elemsFrom]
  | d + 1, i, acc, hi, ha => by
    unfold elemsFrom
    cases hb : s.testBit i with
    | true =>
      refine Ev.step (fun k => ?_) (by have := list_impl_l0 s hs d (i + 1) (acc ++ [(i : Int)]) (by omega) (by simp; omega); rw [List.append_assoc] at this; exact this)
      rw [impl_ListSet.l0.eq_2, if_pos (by omega), has_impl s i (by omega) (by omega), Option.bind_some, hb, if_pos rfl, if_pos (by omega), wsucc i (by omega)]
    | false =>
      refine Ev.step (fun k => ?_) (list_impl_l0 s hs d (i + 1) acc (by omega) (by omega))
      rw [impl_ListSet.l0.eq_2, if_pos (by omega), has_impl s i (by omega) (by omega), Option.bind_some, hb, if_neg (by simp), wsucc i (by omega)]
theorem list_impl (s : Nat) (hs : s < 256) : Ev (fun k => impl_ListSet.f k (s : Int)) (elems s) := by
  have h := list_impl_l0 s (by omega) 8 0 [] (by omega) (by simp)
  rw [List.nil_append] at h
  refine ⟨h.choose, fun k hk => ?_⟩
  have h2 := h.choose_spec k hk
  show impl_ListSet.f k (s : Int) = _
  unfold impl_ListSet.f impl_isSet.f
  rw [in_impl, Option.bind_some, Option.bind_some, decide_eq_true (by omega), if_pos rfl]
  exact h2
/-- all of a list are vertices -/
def verts (n : Int) (L : List Int) : Bool := L.all fun v => decide (0 ≤ v ∧ v < n)
theorem vert_impl (n : Int) (l L : List Int) (h1 : 1 ≤ n) (h2 : n ≤ 8) : impl_Graph_isVertex.f n l L = some (verts n L) := by
  unfold impl_Graph_isVertex.f verts
  congr 1
  have e : wrap64 (n - 1) = n - 1 := by unfold wrap64; omega
  rw [List.not_any_eq_all_not]
  congr 1
  funext v
  unfold isVerP
  rw [e, Bool.not_not, Bool.eq_iff_iff]
  simp; omega
theorem elems_vert {l : List Int} {s : Nat} (hs : s < 2 ^ l.length) (x : Int) (hx : x ∈ elems s) : ∃ v : Nat, x = (v : Int) ∧ v < l.length ∧ s.testBit v = true := by
  obtain ⟨v, rfl, _, hb⟩ := (mem_elems s x).1 hx
  exact ⟨v, rfl, bit_in s _ v hs hb, hb⟩
end Go.Proofs.Ytilanbgciofkjaa.Pure

namespace Go.Proofs.Ytilanbgciofkjaa.Pure
open Go.RowKit Go.Proofs.YtilanbgciofkjaaW.PrintWords Go.Proofs.YtilanbgciofkjaaW.PrintLast Go.Proofs.Ytilanbgciofkjaa.PA
set_option linter.unusedVariables false
set_option linter.unusedSimpArgs false
theorem verts_mem {n : Int} {L : List Int} (h : verts n L = true) (x : Int) (hx : x ∈ L) : 0 ≤ x ∧ x < n := by
  unfold verts at h
  rw [List.all_eq_true] at h
  exact of_decide_eq_true (h x hx)
theorem hold_t {n : Int} {l L : List Int} (g : GOk n l) (h : verts n L = true) : Ev (fun k => impl_Graph_hold.f k n l L) true := by
  refine Ev.bind (graph_impl_t g) ?_
  simp only [↓reduceIte, vert_impl n l L g.lo g.hi, Option.bind_some, h]; exact Ev.now _
theorem hold_f {n : Int} {l L : List Int} (h : ¬ (GOk n l ∧ verts n L = true)) : Ev (fun k => impl_Graph_hold.f k n l L) false := by
  by_cases g : GOk n l
  · refine Ev.bind (graph_impl_t g) ?_
    have h2 : verts n L = false := by cases hv : verts n L with | true => exact absurd ⟨g, hv⟩ h | false => rfl
    simp only [↓reduceIte, vert_impl n l L g.lo g.hi, Option.bind_some, h2]; exact Ev.now _
  · refine Ev.bind (graph_impl_f g) ?_
    simp only [↓reduceIte, Bool.false_eq_true]; exact Ev.now _
end Go.Proofs.Ytilanbgciofkjaa.Pure

namespace Go.Proofs.Ytilanbgciofkjaa.Pure
open Go.RowKit Go.Proofs.YtilanbgciofkjaaW.PrintWords Go.Proofs.YtilanbgciofkjaaW.PrintLast Go.Proofs.Ytilanbgciofkjaa.PA
set_option linter.unusedVariables false
set_option linter.unusedSimpArgs false
end Go.Proofs.Ytilanbgciofkjaa.Pure

namespace Go.Proofs.Ytilanbgciofkjaa.Pure
open Go.RowKit Go.Proofs.YtilanbgciofkjaaW.PrintWords Go.Proofs.YtilanbgciofkjaaW.PrintLast Go.Proofs.Ytilanbgciofkjaa.PA
set_option linter.unusedVariables false
set_option linter.unusedSimpArgs false
def stayN (l : List Int) (v : Nat) : Nat := row l v ||| 2 ^ v
theorem stayN_lt {n : Int} {l : List Int} (g : GOk n l) (v : Nat) (hv : v < l.length) : stayN l v < 2 ^ l.length :=
  Nat.or_lt_two_pow (g.row_lt v hv) (Nat.pow_lt_pow_right (by decide) hv)
theorem stayN_lt8 {n : Int} {l : List Int} (g : GOk n l) (v : Nat) (hv : v < l.length) : stayN l v < 256 := Nat.lt_of_lt_of_le (stayN_lt g v hv) (pow8 _ g.len8)
theorem stayN_impl {n : Int} {l : List Int} (g : GOk n l) (v : Nat) (hv : v < l.length) : impl_Graph_stay.f n l (v : Int) = some (stayN l v : Int) := by
  have h8 := g.len8
  have hrl := g.row_lt8 v hv
  have h2v : (2 : Nat) ^ v < 2 ^ 62 := Nat.pow_lt_pow_right (by decide) (by omega)
  unfold impl_Graph_stay.f
  rw [if_pos (by omega), if_pos (by omega), rd_nat, g.row_eq v hv, bit_impl v (by omega), Option.bind_some, bOr _ _ (by omega) (by omega)]
  rfl
theorem stay_bit {l : List Int} (v i : Nat) : (stayN l v).testBit i = ((row l v).testBit i || decide (v = i)) := by
  unfold stayN; rw [Nat.testBit_or, two_bit]
theorem stay_own {l : List Int} (v : Nat) : (stayN l v).testBit v = true := by rw [stay_bit]; simp
/-- the members of a set that holds v -/
def stayL (l : List Int) (v : Nat) : List Int := elems (stayN l v)
theorem stayL_mem {n : Int} {l : List Int} (g : GOk n l) (v : Nat) (hv : v < l.length) (x : Int) (hx : x ∈ stayL l v) : ∃ u : Nat, x = (u : Int) ∧ u < l.length ∧ (stayN l v).testBit u = true := elems_vert (stayN_lt g v hv) x hx
theorem stayL_len (l : List Int) (v : Nat) : (stayL l v).length ≤ 8 := elems_len _
end Go.Proofs.Ytilanbgciofkjaa.Pure

namespace Go.Proofs.Ytilanbgciofkjaa.Pure
open Go.RowKit Go.Proofs.YtilanbgciofkjaaW.PrintWords Go.Proofs.YtilanbgciofkjaaW.PrintLast Go.Proofs.Ytilanbgciofkjaa.PA
set_option linter.unusedVariables false
set_option linter.unusedSimpArgs false
def mostS (C : List Int) (p : Nat) (m x : Int) : Int := if m < C.getD (8 * p + x.toNat) 0 then C.getD (8 * p + x.toNat) 0 else m
def mostF (l C : List Int) (p f : Nat) : Int := (stayL l f).foldl (mostS C p) 0
def fewS (E : List Int) (f : Nat) (m x : Int) : Int := if 1 + E.getD (8 * x.toNat + f) 0 < m then 1 + E.getD (8 * x.toNat + f) 0 else m
def fewF (l E : List Int) (p f : Nat) : Int := (stayL l p).foldl (fewS E f) 1000
/-- all numbers are in range -/
def InR (X : List Int) : Prop := X.length = 64 ∧ ∀ i, i < 64 → 0 ≤ X.getD i 0 ∧ X.getD i 0 ≤ 1000
theorem InR.at_ {X : List Int} (h : InR X) (i : Nat) (hi : i < 64) : 0 ≤ X.getD i 0 ∧ X.getD i 0 ≤ 1000 := h.2 i hi
theorem getD_set (X : List Int) (j i : Nat) (v : Int) (hj : j < X.length) : (X.set j v).getD i 0 = if i = j then v else X.getD i 0 := by
  rw [List.getD_eq_getElem?_getD, List.getD_eq_getElem?_getD, List.getElem?_set]
  by_cases h : j = i
  · subst h; simp [hj]
  · rw [if_neg h, if_neg (fun e => h e.symm)]
theorem InR.set {X : List Int} (h : InR X) (j : Nat) (hj : j < 64) (v : Int) (h0 : 0 ≤ v) (h1 : v ≤ 1000) : InR (X.set j v) :=
  ⟨by rw [List.length_set]; exact h.1, fun i hi => by
    rw [getD_set X j i v (by rw [h.1]; exact hj)]
    split
    · exact ⟨h0, h1⟩
    · exact h.2 i hi⟩
theorem mostS_in {C : List Int} (h : InR C) (p : Nat) (hp : p < 8) : ∀ (L : List Int) (m : Int), (∀ x ∈ L, x.toNat < 8) → 0 ≤ m → m ≤ 1000 → 0 ≤ L.foldl (mostS C p) m ∧ L.foldl (mostS C p) m ≤ 1000
  | [], m, _, h0, h1 => ⟨h0, h1⟩
  | x :: L, m, hx, h0, h1 => by
    have hc := h.2 (8 * p + x.toNat) (by have := hx x List.mem_cons_self; omega)
    rw [List.foldl_cons]
    exact mostS_in h p hp L _ (fun y hy => hx y (List.mem_cons_of_mem _ hy)) (by unfold mostS; split <;> omega) (by unfold mostS; split <;> omega)
theorem fewS_in {E : List Int} (h : InR E) (f : Nat) (hf : f < 8) : ∀ (L : List Int) (m : Int), (∀ x ∈ L, x.toNat < 8) → 0 ≤ m → m ≤ 1000 → 0 ≤ L.foldl (fewS E f) m ∧ L.foldl (fewS E f) m ≤ 1000
  | [], m, _, h0, h1 => ⟨h0, h1⟩
  | x :: L, m, hx, h0, h1 => by
    have hc := h.2 (8 * x.toNat + f) (by have := hx x List.mem_cons_self; omega)
    rw [List.foldl_cons]
    exact fewS_in h f hf L _ (fun y hy => hx y (List.mem_cons_of_mem _ hy)) (by unfold fewS; split <;> omega) (by unfold fewS; split <;> omega)
theorem stay8 {n : Int} {l : List Int} (g : GOk n l) (v : Nat) (hv : v < l.length) : ∀ x ∈ stayL l v, x.toNat < 8 := fun x hx => by
  obtain ⟨u, rfl, hu, _⟩ := stayL_mem g v hv x hx
  have := g.len8; omega
theorem mostF_in {n : Int} {l : List Int} (g : GOk n l) {C : List Int} (h : InR C) (p f : Nat) (hp : p < l.length) (hf : f < l.length) : 0 ≤ mostF l C p f ∧ mostF l C p f ≤ 1000 :=
  mostS_in h p (by have := g.len8; omega) _ 0 (stay8 g f hf) (by omega) (by omega)
theorem fewF_in {n : Int} {l : List Int} (g : GOk n l) {E : List Int} (h : InR E) (p f : Nat) (hp : p < l.length) (hf : f < l.length) : 0 ≤ fewF l E p f ∧ fewF l E p f ≤ 1000 :=
  fewS_in h f (by have := g.len8; omega) _ 1000 (stay8 g p hp) (by omega) (by omega)
theorem foldl_take_succ {α β : Type} (F : α → β → α) (z : α) (L : List β) (k : Nat) (d : β) (h : k < L.length) : (L.take (k + 1)).foldl F z = F ((L.take k).foldl F z) (L.getD k d) := by
  rw [List.take_succ_eq_append_getElem h, List.foldl_append]
  simp [List.getD_eq_getElem?_getD, List.getElem?_eq_getElem h]
/-- the first m places (of those with different vertices below n) hold val, the others what X held -/
def Grid (n : Nat) (val : Nat → Nat → Int) (X : List Int) (m : Nat) (X1 : List Int) : Prop :=
  InR X1 ∧ ∀ i, i < 64 → X1.getD i 0 = if i < m ∧ i % 8 < n ∧ i / 8 ≠ i % 8 then val (i / 8) (i % 8) else X.getD i 0
theorem Grid.start {n : Nat} {val : Nat → Nat → Int} {X : List Int} (h : InR X) : Grid n val X 0 X := ⟨h, fun i hi => by rw [if_neg (by omega)]⟩
theorem Grid.skip {n : Nat} {val : Nat → Nat → Int} {X X1 : List Int} {p : Nat} (hp : p < 8) (h : Grid n val X (8 * p + p) X1) : Grid n val X (8 * p + (p + 1)) X1 :=
  ⟨h.1, fun i hi => by
    rw [h.2 i hi]
    by_cases e : i = 8 * p + p
    · rw [if_neg (by omega), if_neg (by omega)]
    · by_cases c : i < 8 * p + p ∧ i % 8 < n ∧ i / 8 ≠ i % 8
      · rw [if_pos c, if_pos ⟨by omega, c.2.1, c.2.2⟩]
      · rw [if_neg c, if_neg (by omega)]⟩
theorem Grid.put {n : Nat} {val : Nat → Nat → Int} {X X1 : List Int} {p f : Nat} (hp : p < 8) (hf : f < n) (h8 : n ≤ 8) (hne : p ≠ f) (hv : 0 ≤ val p f ∧ val p f ≤ 1000) (h : Grid n val X (8 * p + f) X1) : Grid n val X (8 * p + (f + 1)) (X1.set (8 * p + f) (val p f)) :=
  ⟨h.1.set _ (by omega) _ hv.1 hv.2, fun i hi => by
    rw [getD_set _ _ _ _ (by rw [h.1.1]; omega)]
    by_cases e : i = 8 * p + f
    · rw [if_pos e, if_pos (by omega)]
      have e1 : i / 8 = p := by omega
      have e2 : i % 8 = f := by omega
      rw [e1, e2]
    · rw [if_neg e, h.2 i hi]
      by_cases c : i < 8 * p + f ∧ i % 8 < n ∧ i / 8 ≠ i % 8
      · rw [if_pos c, if_pos ⟨by omega, c.2.1, c.2.2⟩]
      · rw [if_neg c, if_neg (by omega)]⟩
theorem Grid.row {n : Nat} {val : Nat → Nat → Int} {X X1 : List Int} {p : Nat} (h8 : n ≤ 8) (h : Grid n val X (8 * p + n) X1) : Grid n val X (8 * (p + 1)) X1 :=
  ⟨h.1, fun i hi => by
    rw [h.2 i hi]
    by_cases c : i < 8 * p + n ∧ i % 8 < n ∧ i / 8 ≠ i % 8
    · rw [if_pos c, if_pos ⟨by omega, c.2.1, c.2.2⟩]
    · rw [if_neg c, if_neg (by omega)]⟩
theorem Grid.at_ {n : Nat} {val : Nat → Nat → Int} {X X1 : List Int} (h : Grid n val X (8 * n) X1) (p f : Nat) (h8 : n ≤ 8) (hp : p < n) (hf : f < n) (hne : p ≠ f) : X1.getD (8 * p + f) 0 = val p f := by
  have e1 : (8 * p + f) / 8 = p := by omega
  have e2 : (8 * p + f) % 8 = f := by omega
  rw [h.2 _ (by omega), e1, e2, if_pos ⟨by omega, hf, hne⟩]
theorem Grid.same {n : Nat} {val : Nat → Nat → Int} {X X1 : List Int} (h : Grid n val X (8 * n) X1) (p f : Nat) (hp : p < 8) (hf : f < 8) (hno : n ≤ p ∨ n ≤ f ∨ p = f) : X1.getD (8 * p + f) 0 = X.getD (8 * p + f) 0 := by
  rw [h.2 _ (by omega), if_neg (by omega)]
end Go.Proofs.Ytilanbgciofkjaa.Pure

namespace Go.Proofs.Ytilanbgciofkjaa.Pure
open Go.RowKit Go.Proofs.YtilanbgciofkjaaW.PrintWords Go.Proofs.YtilanbgciofkjaaW.PrintLast Go.Proofs.Ytilanbgciofkjaa.PA
set_option linter.unusedVariables false
set_option linter.unusedSimpArgs false
/-- the pursuer, to move, catches within k moves -/
def win (l : List Int) : Nat → Nat → Nat → Bool
  | 0, p, f => decide (p = f)
  | k + 1, p, f => win l k p f || (stayL l p).any fun x => decide (x.toNat = f) || (stayL l f).all fun y => win l k x.toNat y.toNat
/-- the same, the fugitive to move -/
def esc (l : List Int) (k x f : Nat) : Bool := decide (x = f) || (stayL l f).all fun y => win l k x y.toNat
theorem win_succ (l : List Int) (k p f : Nat) : win l (k + 1) p f = (win l k p f || (stayL l p).any fun x => esc l k x.toNat f) := rfl
theorem win_mono1 (l : List Int) (k p f : Nat) (h : win l k p f = true) : win l (k + 1) p f = true := by rw [win_succ, h]; rfl
theorem win_mono (l : List Int) (p f : Nat) {k m : Nat} (hm : k ≤ m) (h : win l k p f = true) : win l m p f = true := by
  induction hm with
  | refl => exact h
  | step _ ih => exact win_mono1 l _ p f ih
theorem esc_mono (l : List Int) (x f : Nat) {k m : Nat} (hm : k ≤ m) (h : esc l k x f = true) : esc l m x f = true := by
  unfold esc at *
  rw [Bool.or_eq_true, List.all_eq_true] at *
  exact h.imp id (fun h y hy => win_mono l x _ hm (h y hy))
theorem win_self (l : List Int) (k p : Nat) : win l k p p = true := win_mono l p p (Nat.zero_le k) (by simp [win])
theorem esc_self (l : List Int) (k p : Nat) : esc l k p p = true := by simp [esc]
/-- whoever is not there yet moves -/
theorem win_move (l : List Int) (p f : Nat) (hne : p ≠ f) : ∀ k, win l k p f = true → ∃ x ∈ stayL l p, ∃ j, j < k ∧ esc l j x.toNat f = true
  | 0, h => by simp [win] at h; exact absurd h hne
  | k + 1, h => by
    rw [win_succ, Bool.or_eq_true, List.any_eq_true] at h
    rcases h with h | ⟨x, hx, h⟩
    · obtain ⟨x, hx, j, hj, h⟩ := win_move l p f hne k h
      exact ⟨x, hx, j, by omega, h⟩
    · exact ⟨x, hx, k, by omega, h⟩
theorem win_iff (l : List Int) (p f : Nat) (hne : p ≠ f) (k : Nat) : win l (k + 1) p f = true ↔ ∃ x ∈ stayL l p, esc l k x.toNat f = true := by
  constructor
  · intro h
    obtain ⟨x, hx, j, hj, h⟩ := win_move l p f hne _ h
    exact ⟨x, hx, esc_mono l _ _ (by omega) h⟩
  · rintro ⟨x, hx, h⟩
    rw [win_succ, Bool.or_eq_true, List.any_eq_true]
    exact .inr ⟨x, hx, h⟩
theorem esc_iff (l : List Int) (x f : Nat) (hne : x ≠ f) (k : Nat) : esc l k x f = true ↔ ∀ y ∈ stayL l f, win l k x y.toNat = true := by
  unfold esc
  rw [Bool.or_eq_true, List.all_eq_true, decide_eq_true_eq]
  exact ⟨fun h => h.elim (fun h => absurd h hne) id, .inr⟩

theorem most_le (C : List Int) (p : Nat) (k : Int) : ∀ (L : List Int) (m : Int), L.foldl (mostS C p) m ≤ k ↔ m ≤ k ∧ ∀ x ∈ L, C.getD (8 * p + x.toNat) 0 ≤ k
  | [], m => by simp
  | x :: L, m => by
    rw [List.foldl_cons, most_le C p k L]
    have : mostS C p m x ≤ k ↔ m ≤ k ∧ C.getD (8 * p + x.toNat) 0 ≤ k := by unfold mostS; split <;> omega
    rw [this, and_assoc]
    simp
theorem few_le (E : List Int) (f : Nat) (k : Int) : ∀ (L : List Int) (m : Int), L.foldl (fewS E f) m ≤ k ↔ m ≤ k ∨ ∃ x ∈ L, 1 + E.getD (8 * x.toNat + f) 0 ≤ k
  | [], m => by simp
  | x :: L, m => by
    rw [List.foldl_cons, few_le E f k L]
    have : fewS E f m x ≤ k ↔ m ≤ k ∨ 1 + E.getD (8 * x.toNat + f) 0 ≤ k := by unfold fewS; split <;> omega
    rw [this, or_assoc]
    simp
/-- the numbers tell the game's first r moves -/
def Val (n : Nat) (l : List Int) (r : Nat) (C : List Int) : Prop := InR C ∧ ∀ p f, p < n → f < n → ∀ k : Nat, k < 1000 → (C.getD (8 * p + f) 0 ≤ (k : Int) ↔ win l (min k r) p f = true)
def EVal (n : Nat) (l : List Int) (r : Nat) (E : List Int) : Prop := InR E ∧ ∀ p f, p < n → f < n → ∀ k : Nat, k < 1000 → (E.getD (8 * p + f) 0 ≤ (k : Int) ↔ esc l (min k r) p f = true)
def Diag (E : List Int) : Prop := ∀ p, p < 8 → E.getD (8 * p + p) 0 = 0
theorem Diag.grid {n : Nat} {val : Nat → Nat → Int} {X X1 : List Int} (h : Diag X) (hg : Grid n val X (8 * n) X1) : Diag X1 := fun p hp => by rw [hg.same p p hp hp (.inr (.inr rfl)), h p hp]
theorem Val.stable {n : Nat} {l : List Int} {r : Nat} {C : List Int} (hr : r + 1 < 1000) (hC : Val n l r C) (hC' : Val n l (r + 1) C) (p f : Nat) (hp : p < n) (hf : f < n) (h : win l (r + 1) p f = true) : win l r p f = true := by
  have h1 := (hC'.2 p f hp hf (r + 1) hr).2 (by rw [Nat.min_self]; exact h)
  have h2 := (hC.2 p f hp hf (r + 1) hr).1 h1
  rwa [Nat.min_eq_right (by omega)] at h2
section
variable {n : Nat} {l : List Int} (g : GOk (n : Int) l)
include g
theorem nlen : l.length = n := by have := g.len; omega
theorem stay_vert (v : Nat) (hv : v < n) (x : Int) (hx : x ∈ stayL l v) : x.toNat < n := by
  have e := nlen g
  obtain ⟨u, rfl, hu, _⟩ := stayL_mem g v (by omega) x hx
  rw [Int.toNat_natCast]; omega
theorem Val.start {X Z : List Int} (hZ : Grid n (fun _ _ => 1000) Z (8 * n) X) (hd : Diag Z) : Val n l 0 X := ⟨hZ.1, fun p f hp hf k hk => by
  have h8 := g.len8
  have e := nlen g
  rw [Nat.min_zero]
  by_cases hpf : p = f
  · subst hpf
    rw [(hd.grid hZ) p (by omega)]
    simp [win]
  · rw [hZ.at_ p f (by omega) hp hf hpf]
    simp [win, hpf]; omega⟩
theorem EVal.of {r : Nat} {C E E' : List Int} (hC : Val n l r C) (hd : Diag E) (hE : Grid n (mostF l C) E (8 * n) E') : EVal n l r E' := ⟨hE.1, fun x f hx hf k hk => by
  have h8 := g.len8
  have e := nlen g
  by_cases hxf : x = f
  · subst hxf
    rw [(hd.grid hE) x (by omega)]
    simp [esc_self]
  · rw [hE.at_ x f (by omega) hx hf hxf, mostF, most_le, esc_iff l x f hxf]
    constructor
    · intro h y hy
      exact (hC.2 x y.toNat hx (stay_vert g f hf y hy) k hk).1 (h.2 y hy)
    · intro h
      exact ⟨by omega, fun y hy => (hC.2 x y.toNat hx (stay_vert g f hf y hy) k hk).2 (h y hy)⟩⟩
theorem Val.step {r : Nat} {C E' C' : List Int} (hC : Val n l r C) (hdC : Diag C) (hE : EVal n l r E') (hG : Grid n (fewF l E') C (8 * n) C') : Val n l (r + 1) C' := ⟨hG.1, fun p f hp hf k hk => by
  have h8 := g.len8
  have e := nlen g
  by_cases hpf : p = f
  · subst hpf
    rw [(hdC.grid hG) p (by omega)]
    simp [win_self]
  · rw [hG.at_ p f (by omega) hp hf hpf, fewF, few_le]
    rcases k with _ | k
    · rw [Nat.zero_min]
      simp only [win, decide_eq_true_eq]
      constructor
      · rintro (h | ⟨x, hx, h⟩)
        · exact absurd h (by decide)
        · have := hE.1.2 (8 * x.toNat + f) (by have := stay_vert g p hp x hx; omega)
          omega
      · intro h; exact absurd h hpf
    · rw [show min (k + 1) (r + 1) = min k r + 1 from by omega, win_iff l p f hpf]
      constructor
      · rintro (h | ⟨x, hx, h⟩)
        · exfalso; omega
        · exact ⟨x, hx, (hE.2 x.toNat f (stay_vert g p hp x hx) hf k (by omega)).1 (by omega)⟩
      · rintro ⟨x, hx, h⟩
        have := (hE.2 x.toNat f (stay_vert g p hp x hx) hf k (by omega)).2 h
        exact .inr ⟨x, hx, by omega⟩⟩
/-- numbers in range that have the same thresholds are equal -/
theorem Val.same {r : Nat} {C C' : List Int} (hC : Val n l r C) (hC' : Val n l (r + 1) C') (p f : Nat) (hp : p < n) (hf : f < n) (hw : win l (r + 1) p f = true → win l r p f = true) : C'.getD (8 * p + f) 0 = C.getD (8 * p + f) 0 := by
  have h8 := g.len8
  have e := nlen g
  have i1 := hC.1.2 (8 * p + f) (by omega)
  have i2 := hC'.1.2 (8 * p + f) (by omega)
  have key : ∀ k : Nat, k < 1000 → (C'.getD (8 * p + f) 0 ≤ (k : Int) ↔ C.getD (8 * p + f) 0 ≤ (k : Int)) := by
    intro k hk
    rw [hC.2 p f hp hf k hk, hC'.2 p f hp hf k hk]
    by_cases h : k ≤ r
    · rw [Nat.min_eq_left h, Nat.min_eq_left (by omega)]
    · rw [Nat.min_eq_right (by omega), Nat.min_eq_right (by omega)]
      exact ⟨hw, win_mono1 l r p f⟩
  apply Int.le_antisymm
  · by_cases h : C.getD (8 * p + f) 0 < 1000
    · have := (key (C.getD (8 * p + f) 0).toNat (by omega)).2 (by omega)
      omega
    · omega
  · by_cases h : C'.getD (8 * p + f) 0 < 1000
    · have := (key (C'.getD (8 * p + f) 0).toNat (by omega)).1 (by omega)
      omega
    · omega
/-- once nothing new comes, nothing ever comes -/
theorem win_stop {r : Nat} (hs : ∀ p f, p < n → f < n → win l (r + 1) p f = true → win l r p f = true) : ∀ (d p f : Nat), p < n → f < n → win l (r + d) p f = true → win l r p f = true
  | 0, p, f, hp, hf, h => h
  | d + 1, p, f, hp, hf, h => by
    by_cases hpf : p = f
    · subst hpf; exact win_self l r p
    · apply hs p f hp hf
      rw [show r + (d + 1) = (r + d) + 1 from rfl, win_iff l p f hpf] at h
      rw [win_iff l p f hpf]
      obtain ⟨x, hx, h⟩ := h
      refine ⟨x, hx, ?_⟩
      have hxn := stay_vert g p hp x hx
      by_cases hxf : x.toNat = f
      · rw [hxf]; exact esc_self l r f
      · rw [esc_iff l _ f hxf] at h ⊢
        exact fun y hy => win_stop hs d x.toNat y.toNat hxn (stay_vert g f hf y hy) (h y hy)
theorem win_min {r : Nat} (hs : ∀ p f, p < n → f < n → win l (r + 1) p f = true → win l r p f = true) (k p f : Nat) (hp : p < n) (hf : f < n) : win l (min k r) p f = win l k p f := by
  by_cases h : k ≤ r
  · rw [Nat.min_eq_left h]
  · rw [Nat.min_eq_right (by omega), Bool.eq_iff_iff]
    exact ⟨win_mono l p f (by omega), fun hk => win_stop g hs (k - r) p f hp hf (by rw [show r + (k - r) = k from by omega]; exact hk)⟩
theorem esc_min {r : Nat} (hs : ∀ p f, p < n → f < n → win l (r + 1) p f = true → win l r p f = true) (k p f : Nat) (hp : p < n) (hf : f < n) : esc l (min k r) p f = esc l k p f := by
  rw [Bool.eq_iff_iff]
  by_cases hpf : p = f
  · subst hpf; simp [esc_self]
  · rw [esc_iff l p f hpf, esc_iff l p f hpf]
    exact ⟨fun h y hy => by rw [← win_min g hs k p _ hp (stay_vert g f hf y hy)]; exact h y hy, fun h y hy => by rw [win_min g hs k p _ hp (stay_vert g f hf y hy)]; exact h y hy⟩
end
/-- how many pairs of vertices are won within k moves -/
def cnt (n : Nat) (l : List Int) (k : Nat) : Nat := (List.range 64).countP fun i => decide (i / 8 < n ∧ i % 8 < n) && win l k (i / 8) (i % 8)
theorem cnt_le (n : Nat) (l : List Int) (k : Nat) : cnt n l k ≤ 64 := by
  have := List.countP_le_length (p := fun i => decide (i / 8 < n ∧ i % 8 < n) && win l k (i / 8) (i % 8)) (l := List.range 64)
  simpa [cnt] using this
theorem countP_lt {α : Type} (P Q : α → Bool) : ∀ (L : List α), (∀ x ∈ L, P x = true → Q x = true) → (∃ x ∈ L, P x = false ∧ Q x = true) → L.countP P + 1 ≤ L.countP Q
  | [], _, h => by obtain ⟨x, hx, _⟩ := h; cases hx
  | a :: L, hm, h => by
    rw [List.countP_cons, List.countP_cons]
    have hle : L.countP P ≤ L.countP Q := List.countP_mono_left (fun x hx => hm x (List.mem_cons_of_mem _ hx))
    by_cases hz : ∃ x ∈ L, P x = false ∧ Q x = true
    · have := countP_lt P Q L (fun x hx => hm x (List.mem_cons_of_mem _ hx)) hz
      have ha := hm a List.mem_cons_self
      cases hp : P a <;> cases hq : Q a <;> simp_all <;> omega
    · obtain ⟨x, hx, h1, h2⟩ := h
      rcases List.mem_cons.1 hx with rfl | hx
      · simp [h1, h2]; omega
      · exact absurd ⟨x, hx, h1, h2⟩ hz
theorem cnt_step (n : Nat) (l : List Int) (h8 : n ≤ 8) (k p f : Nat) (hp : p < n) (hf : f < n) (h0 : win l k p f = false) (h1 : win l (k + 1) p f = true) : cnt n l k + 1 ≤ cnt n l (k + 1) := by
  refine countP_lt _ _ _ (fun i _ h => ?_) ⟨8 * p + f, List.mem_range.2 (by omega), ?_, ?_⟩
  · rw [Bool.and_eq_true] at h ⊢
    exact ⟨h.1, win_mono1 l k _ _ h.2⟩
  · rw [show (8 * p + f) / 8 = p from by omega, show (8 * p + f) % 8 = f from by omega, h0]; simp
  · rw [show (8 * p + f) / 8 = p from by omega, show (8 * p + f) % 8 = f from by omega, h1]; simp; omega
/-- a round that changes something wins a new pair -/
theorem Val.change {n : Nat} {l : List Int} (g : GOk (n : Int) l) {r : Nat} {C C' : List Int} {val : Nat → Nat → Int} (hC : Val n l r C) (hC' : Val n l (r + 1) C') (hG : Grid n val C (8 * n) C') (hne : C' ≠ C) : cnt n l r + 1 ≤ cnt n l (r + 1) := by
  have h8 : n ≤ 8 := by have := g.len8; have := nlen g; omega
  apply Decidable.byContradiction
  intro hno
  apply hne
  apply List.ext_getElem (by rw [hC.1.1, hC'.1.1])
  intro i h1 h2
  have hi : i < 64 := by rw [hC'.1.1] at h1; exact h1
  have e : C'.getD i 0 = C.getD i 0 := by
    by_cases hin : i / 8 < n ∧ i % 8 < n
    · have := Val.same g hC hC' (i / 8) (i % 8) hin.1 hin.2 (fun hw => by
        cases h0 : win l r (i / 8) (i % 8) with
        | true => rfl
        | false => exact absurd (cnt_step n l h8 r _ _ hin.1 hin.2 h0 hw) hno)
      rwa [show 8 * (i / 8) + i % 8 = i from by omega] at this
    · have := hG.same (i / 8) (i % 8) (by omega) (by omega) (by omega)
      rwa [show 8 * (i / 8) + i % 8 = i from by omega] at this
  simpa [List.getD_eq_getElem?_getD, List.getElem?_eq_getElem, h1, h2] using e
/-- the table as it stands when the rounds have come to their end -/
structure TabFin (n : Nat) (l C E : List Int) : Prop where
  inC : InR C
  inE : InR E
  ch : ∀ p f, p < n → f < n → ∀ k : Nat, k < 1000 → (C.getD (8 * p + f) 0 ≤ (k : Int) ↔ win l k p f = true)
  es : ∀ p f, p < n → f < n → ∀ k : Nat, k < 1000 → (E.getD (8 * p + f) 0 ≤ (k : Int) ↔ esc l k p f = true)
  few : ∀ p f, p < n → f < n → win l 1000 p f = true → C.getD (8 * p + f) 0 ≤ 64
theorem TabFin.of {n : Nat} {l : List Int} (g : GOk (n : Int) l) {r : Nat} {C E E' : List Int} (hr : r ≤ 64) (hC : Val n l r C) (hC' : Val n l (r + 1) C) (hd : Diag E) (hE : Grid n (mostF l C) E (8 * n) E') : TabFin n l C E' := by
  have hs : ∀ p f, p < n → f < n → win l (r + 1) p f = true → win l r p f = true := fun p f hp hf h => Val.stable (by omega) hC hC' p f hp hf h
  have hEV := EVal.of g hC hd hE
  refine ⟨hC.1, hE.1, fun p f hp hf k hk => ?_, fun p f hp hf k hk => ?_, fun p f hp hf h => ?_⟩
  · rw [hC.2 p f hp hf k hk, win_min g hs k p f hp hf]
  · rw [hEV.2 p f hp hf k hk, esc_min g hs k p f hp hf]
  · rw [← win_min g hs 1000 p f hp hf, Nat.min_eq_right (by omega)] at h
    have := (hC.2 p f hp hf 64 (by omega)).2 (by rw [Nat.min_eq_right (by omega)]; exact h)
    exact this
end Go.Proofs.Ytilanbgciofkjaa.Pure

namespace Go.Proofs.Ytilanbgciofkjaa.Pure
open Go.RowKit Go.Proofs.YtilanbgciofkjaaW.PrintWords Go.Proofs.YtilanbgciofkjaaW.PrintLast Go.Proofs.Ytilanbgciofkjaa.PA
set_option linter.unusedVariables false
set_option linter.unusedSimpArgs false
/-- the least number below 1000 for which P holds, -1 if there is none -/
def leastK (P : Nat → Bool) : Int := match (List.range 1000).find? P with | some k => (k : Int) | none => -1
theorem leastK_none {P : Nat → Bool} (h : ∀ k, k < 1000 → P k = false) : leastK P = -1 := by
  unfold leastK
  rw [List.find?_eq_none.2 (fun x hx => by rw [h x (List.mem_range.1 hx)]; decide)]
theorem leastK_some {P : Nat → Bool} {k : Nat} (hk : k < 1000) (h : P k = true) (hl : ∀ j, j < k → P j = false) : leastK P = (k : Int) := by
  unfold leastK
  cases e : (List.range 1000).find? P with
  | none => have := List.find?_eq_none.1 e k (List.mem_range.2 hk); rw [h] at this; exact absurd rfl this
  | some m =>
    have hm := List.find?_some e
    have hm2 := List.mem_range.1 (List.mem_of_find?_eq_some e)
    have h1 : ¬ m < k := fun hlt => by rw [hl m hlt] at hm; cases hm
    have h2 : ¬ k < m := fun hlt => by
      rw [List.find?_range_eq_some] at e
      have := e.2.2 k hlt
      rw [h] at this; cases this
    have : m = k := by omega
    rw [this]
theorem leastK_cases (P : Nat → Bool) : (leastK P = -1 ∧ ∀ k, k < 1000 → P k = false) ∨ ∃ k : Nat, k < 1000 ∧ leastK P = (k : Int) ∧ P k = true ∧ ∀ j, j < k → P j = false := by
  unfold leastK
  cases e : (List.range 1000).find? P with
  | none => exact .inl ⟨rfl, fun k hk => by have := List.find?_eq_none.1 e k (List.mem_range.2 hk); simpa using this⟩
  | some m =>
    have hm := List.find?_some e
    have hm2 := List.mem_range.1 (List.mem_of_find?_eq_some e)
    rw [List.find?_range_eq_some] at e
    exact .inr ⟨m, hm2, rfl, hm, fun j hj => by have := e.2.2 j hj; simpa using this⟩
/-- the number of moves with the pursuer, or with the fugitive, to move -/
def dist (l : List Int) (p f : Nat) : Int := leastK fun k => win l k p f
def edist (l : List Int) (p f : Nat) : Int := leastK fun k => esc l k p f
theorem told_of {v : Int} {P : Nat → Bool} (h0 : 0 ≤ v) (h1 : v ≤ 1000) (h : ∀ k : Nat, k < 1000 → (v ≤ (k : Int) ↔ P k = true)) : (if v ≥ 1000 then -1 else v) = leastK P := by
  by_cases hv : v ≥ 1000
  · rw [if_pos hv, leastK_none (fun k hk => by
      cases e : P k with
      | false => rfl
      | true => have := (h k hk).2 e; omega)]
  · rw [if_neg hv]
    rw [leastK_some (k := v.toNat) (by omega) ((h v.toNat (by omega)).1 (by omega)) (fun j hj => by
      cases e : P j with
      | false => rfl
      | true => have := (h j (by omega)).2 e; omega)]
    omega
theorem TabFin.dist {n : Nat} {l C E : List Int} (h8 : n ≤ 8) (h : TabFin n l C E) (p f : Nat) (hp : p < n) (hf : f < n) : impl_told.f (C.getD (8 * p + f) 0) = some (dist l p f) := by
  have := h.inC.2 (8 * p + f) (by omega)
  unfold impl_told.f Pure.dist
  rw [← told_of this.1 this.2 (h.ch p f hp hf)]
  split <;> rfl
theorem TabFin.edist {n : Nat} {l C E : List Int} (h8 : n ≤ 8) (h : TabFin n l C E) (p f : Nat) (hp : p < n) (hf : f < n) : impl_told.f (E.getD (8 * p + f) 0) = some (edist l p f) := by
  have := h.inE.2 (8 * p + f) (by omega)
  unfold impl_told.f Pure.edist
  rw [← told_of this.1 this.2 (h.es p f hp hf)]
  split <;> rfl
theorem Ev_det {α : Type} {g : Nat → Option α} {a b : α} (h : Ev g a) (h' : Ev g b) : a = b := by
  obtain ⟨k, h⟩ := h
  obtain ⟨m, h'⟩ := h'
  exact Option.some.inj ((h (k + m) (by omega)).symm.trans (h' (k + m) (by omega)))
theorem hold_inv {k : Nat} {n : Int} {l L : List Int} {b : Bool} (h : impl_Graph_hold.f k n l L = some b) : b = true ↔ GOk n l ∧ verts n L = true := by
  have hev : Ev (fun k => impl_Graph_hold.f k n l L) b := Ev.of (fun k => impl_Graph_hold.mono n l L k) h
  by_cases hg : GOk n l ∧ verts n L = true
  · exact ⟨fun _ => hg, fun _ => Ev_det hev (hold_t hg.1 hg.2)⟩
  · exact ⟨fun e => (by have := Ev_det hev (hold_f hg); rw [e] at this; cases this), fun h => absurd h hg⟩
theorem verts2 {n : Nat} {p f : Int} (h : verts (n : Int) [p, f] = true) : ∃ p' f' : Nat, p = (p' : Int) ∧ f = (f' : Int) ∧ p' < n ∧ f' < n := by
  have h1 := verts_mem h p (by simp)
  have h2 := verts_mem h f (by simp)
  exact ⟨p.toNat, f.toNat, by omega, by omega, by omega, by omega⟩
end Go.Proofs.Ytilanbgciofkjaa.Pure

namespace Go.Proofs.Ytilanbgciofkjaa.Pure
open Go.RowKit Go.Proofs.YtilanbgciofkjaaW.PrintWords Go.Proofs.YtilanbgciofkjaaW.PrintLast Go.Proofs.Ytilanbgciofkjaa.PA
set_option linter.unusedVariables false
set_option linter.unusedSimpArgs false
theorem win_dist {n : Nat} {l : List Int} (g : GOk (n : Int) l) {C E : List Int} (h : TabFin n l C E) (p f : Nat) (hp : p < n) (hf : f < n) : (C.getD (8 * p + f) 0 = 1000 ∧ dist l p f = -1) ∨ (∃ v : Nat, v < 1000 ∧ C.getD (8 * p + f) 0 = (v : Int) ∧ dist l p f = (v : Int) ∧ win l v p f = true ∧ ∀ j, j < v → win l j p f = false) := by
  have h8 := g.len8
  have e := nlen g
  have hin := h.inC.2 (8 * p + f) (by omega)
  by_cases c : C.getD (8 * p + f) 0 = 1000
  · refine .inl ⟨c, leastK_none (fun k hk => ?_)⟩
    cases e : win l k p f with
    | false => rfl
    | true => have := (h.ch p f hp hf k hk).2 e; omega
  · have h1 := (h.ch p f hp hf (C.getD (8 * p + f) 0).toNat (by omega)).1 (by omega)
    have h2 : ∀ j, j < (C.getD (8 * p + f) 0).toNat → win l j p f = false := fun j hj => by
      cases e : win l j p f with
      | false => rfl
      | true => have := (h.ch p f hp hf j (by omega)).2 e; omega
    exact .inr ⟨(C.getD (8 * p + f) 0).toNat, by omega, by omega, leastK_some (by omega) h1 h2, h1, h2⟩
theorem esc_dist {n : Nat} {l : List Int} (g : GOk (n : Int) l) {C E : List Int} (h : TabFin n l C E) (p f : Nat) (hp : p < n) (hf : f < n) : (E.getD (8 * p + f) 0 = 1000 ∧ edist l p f = -1) ∨ (∃ v : Nat, v < 1000 ∧ E.getD (8 * p + f) 0 = (v : Int) ∧ edist l p f = (v : Int)) := by
  have h8 := g.len8
  have e := nlen g
  have hin := h.inE.2 (8 * p + f) (by omega)
  by_cases c : E.getD (8 * p + f) 0 = 1000
  · refine .inl ⟨c, leastK_none (fun k hk => ?_)⟩
    cases e : esc l k p f with
    | false => rfl
    | true => have := (h.es p f hp hf k hk).2 e; omega
  · have h1 := (h.es p f hp hf (E.getD (8 * p + f) 0).toNat (by omega)).1 (by omega)
    have h2 : ∀ j, j < (E.getD (8 * p + f) 0).toNat → esc l j p f = false := fun j hj => by
      cases e : esc l j p f with
      | false => rfl
      | true => have := (h.es p f hp hf j (by omega)).2 e; omega
    exact .inr ⟨(E.getD (8 * p + f) 0).toNat, by omega, by omega, leastK_some (by omega) h1 h2⟩
end Go.Proofs.Ytilanbgciofkjaa.Pure

namespace Go.Proofs.Ytilanbgciofkjaa.Pure
open Go.RowKit Go.Proofs.YtilanbgciofkjaaW.PrintWords Go.Proofs.YtilanbgciofkjaaW.PrintLast Go.Proofs.Ytilanbgciofkjaa.PA
set_option linter.unusedVariables false
set_option linter.unusedSimpArgs false
end Go.Proofs.Ytilanbgciofkjaa.Pure
