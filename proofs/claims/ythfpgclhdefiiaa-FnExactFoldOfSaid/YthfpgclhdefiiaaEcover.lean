/- Covers: both programs find the same least one. -/
import Derived.Test.YthfpgclhdefiiaaD
import Derived.Test.YthfpgclhdefiiaaPAx18
import Derived.Test.YthfpgclhdefiiaaPAx21
import Derived.Test.YthfpgclhdefiiaaPAx22
namespace Go.Proofs.Ythfpgclhdefiiaa.Pure
open Go.RowKit Go.Proofs.YthfpgclhdefiiaaW.PrintWords Go.Proofs.YthfpgclhdefiiaaW.PrintLast Go.Proofs.Ythfpgclhdefiiaa.PA
set_option linter.unusedVariables false
set_option linter.unusedSimpArgs false
/-- the first element for which p holds, else -1 -/
def firstOf (p : Int → Bool) (L : List Int) : Int := (L.find? p).getD (-1)
theorem Ev_find (G : Nat → Nat → Option Int) (L : List Int) (p : Int → Bool) (hs : ∀ i k, i < L.length → p (L.getD i 0) = false → G (k + 1) i = G k (i + 1))
    (hx : ∀ i k, i < L.length → p (L.getD i 0) = true → G (k + 1) i = some (L.getD i 0)) (he : ∀ k, G (k + 1) L.length = some (-1)) :
    ∀ d i, i + d = L.length → Ev (fun k => G k i) (firstOf p (L.drop i))
  | 0, i, hi => by
    obtain rfl : i = L.length := by omega
    rw [List.drop_length]
    exact Ev.here he
  | d + 1, i, hi => by
    rw [drop_cons L i (by omega)]
    unfold firstOf
    cases hp : p (L.getD i 0) with
    | true => rw [List.find?_cons_of_pos hp]; exact Ev.here (fun k => hx i k (by omega) hp)
    | false => rw [List.find?_cons_of_neg (by rw [hp]; exact Bool.false_ne_true)]; exact Ev.step (fun k => hs i k (by omega) hp) (Ev_find G L p hs hx he d (i + 1) (by omega))
theorem firstOf_congr (p q : Int → Bool) (L : List Int) (h : ∀ x ∈ L, p x = q x) : firstOf p L = firstOf q L := by
  unfold firstOf
  congr 1
  induction L with
  | nil => rfl
  | cons x L ih =>
    have hx := h x List.mem_cons_self
    have ih := ih (fun y hy => h y (List.mem_cons_of_mem _ hy))
    cases hp : p x with
    | true => rw [List.find?_cons_of_pos hp, List.find?_cons_of_pos (by rw [← hx]; exact hp)]
    | false => rw [List.find?_cons_of_neg (by simp [hp]), List.find?_cons_of_neg (by rw [← hx]; simp [hp]), ih]
def stayN (l : List Int) (v : Nat) : Nat := row l v ||| 2 ^ v
theorem stayN_lt {n : Int} {l : List Int} (g : GOk n l) (v : Nat) (hv : v < l.length) : stayN l v < 2 ^ l.length :=
  Nat.or_lt_two_pow (g.row_lt v hv) (Nat.pow_lt_pow_right (by decide) hv)
theorem stayN_impl {n : Int} {l : List Int} (g : GOk n l) (v : Nat) (hv : v < l.length) : impl_Graph_stay.f n l (v : Int) = some (stayN l v : Int) := by
  have h8 := g.len8
  have hrl := g.row_lt8 v hv
  have h2v : (2 : Nat) ^ v < 2 ^ 62 := Nat.pow_lt_pow_right (by decide) (by omega)
  unfold impl_Graph_stay.f
  rw [if_pos (by omega), if_pos (by omega), rd_nat, g.row_eq v hv, bit_impl v (by omega), Option.bind_some, bOr _ _ (by omega) (by omega)]
  rfl
/-- w is a cover of v within s -/
def covB (l : List Int) (s v w : Nat) : Bool := decide (v ≠ w) && ((row l v).testBit w && decide (dif (stayN l v &&& s) (stayN l w) = 0))
theorem cover_spec {n : Int} {l : List Int} (g : GOk n l) (s v w : Nat) (hs : s < 2 ^ l.length) (hv : v < l.length) (hw : w < l.length) : spec_l04Cover.f n l (s : Int) (v : Int) (w : Int) = some (covB l s v w) := by
  have h8 := g.len8
  have p8 := pow8 _ h8
  have h1 := g.row_lt8 v hv
  have h2 := g.row_lt8 w hw
  have e1 : (2 : Nat) ^ v < 2 ^ 62 := Nat.pow_lt_pow_right (by decide) (by omega)
  have e2 : (2 : Nat) ^ w < 2 ^ 62 := Nat.pow_lt_pow_right (by decide) (by omega)
  have s1 := stayN_lt g v hv
  have s2 := stayN_lt g w hw
  unfold spec_l04Cover.f covB
  by_cases e : v = w
  · subst e; rw [if_pos rfl]; simp
  · rw [if_neg (by omega), if_pos (by omega), if_pos (by omega), rd_nat, g.row_eq v hv, has_spec _ w (by omega) (by omega), Option.bind_some, decide_eq_true e, Bool.true_and]
    cases hb : (row l v).testBit w with
    | false => rw [if_neg (by simp), Bool.false_and]
    | true =>
      have h3 : stayN l v &&& s < 2 ^ l.length := Nat.lt_of_le_of_lt Nat.and_le_left s1
      rw [if_pos rfl, if_pos (by omega), if_pos (by omega), rd_nat, g.row_eq w hw, sShl v (by omega), sShl w (by omega), bOr _ _ (by omega) (by omega), bOr _ _ (by omega) (by omega)]
      rw [show (row l v ||| 2 ^ v) = stayN l v from rfl, show (row l w ||| 2 ^ w) = stayN l w from rfl, bAnd _ _ (by omega) (by omega), bDif _ _ (by omega) (by omega), Bool.true_and]
      congr 1
      rw [Bool.eq_iff_iff]; simp
theorem dif_zero (a b : Nat) : dif a b = 0 ↔ ∀ i, a.testBit i = true → b.testBit i = true := by
  constructor
  · intro h i ha
    have := dif_bit a b i
    rw [h, ha, Nat.zero_testBit] at this
    simpa using this.symm
  · intro h
    apply Nat.eq_of_testBit_eq
    intro i
    rw [dif_bit, Nat.zero_testBit]
    cases ha : a.testBit i with
    | false => rfl
    | true => rw [h i ha]; rfl
theorem covers_impl {n : Int} {l : List Int} (g : GOk n l) (s v w : Nat) (hs : s < 2 ^ l.length) (hv : v < l.length) (hw : w < l.length) (hne : v ≠ w) (hsw : s.testBit w = true) : impl_Graph_covers.f n l (s : Int) (v : Int) (w : Int) = some (covB l s v w) := by
  have h8 := g.len8
  have p8 := pow8 _ h8
  have h1 := g.row_lt8 v hv
  have s2 := stayN_lt g w hw
  have h3 : row l v &&& s < 256 := Nat.lt_of_le_of_lt Nat.and_le_left h1
  unfold impl_Graph_covers.f covB
  rw [if_pos (by omega), if_pos (by omega), rd_nat, g.row_eq v hv, bAnd _ _ (by omega) (by omega), has_impl _ w (by omega) (by omega), Option.bind_some, decide_eq_true hne, Bool.true_and, Nat.testBit_and, hsw, Bool.and_true]
  cases hb : (row l v).testBit w with
  | false => rw [if_neg (by simp), Bool.false_and]
  | true =>
    rw [if_pos rfl, stayN_impl g w hw, Option.bind_some, bDif _ _ (by omega) (by omega), Bool.true_and]
    congr 1
    have hsym : (row l w).testBit v = true := by have := g.sym v w hv hw; unfold row at hb ⊢; rw [← this]; exact hb
    have e : dif (row l v &&& s) (stayN l w) = 0 ↔ dif (stayN l v &&& s) (stayN l w) = 0 := by
      rw [dif_zero, dif_zero]
      constructor
      · intro h i hi
        rw [Nat.testBit_and, Bool.and_eq_true] at hi
        unfold stayN at hi
        rw [Nat.testBit_or, two_bit, Bool.or_eq_true, decide_eq_true_eq] at hi
        rcases hi.1 with h4 | h4
        · exact h i (by rw [Nat.testBit_and, h4, hi.2]; rfl)
        · subst h4; unfold stayN; rw [Nat.testBit_or, hsym]; rfl
      · intro h i hi
        rw [Nat.testBit_and, Bool.and_eq_true] at hi
        apply h
        unfold stayN
        rw [Nat.testBit_and, Nat.testBit_or, hi.1, hi.2]; rfl
    rw [Bool.eq_iff_iff, decide_eq_true_eq, ← e]; simp
/-- the least cover of v within s, or -1 -/
def leastN (l : List Int) (s v : Nat) : Int := firstOf (fun w => covB l s v w.toNat) (elems s)
theorem least_spec {n : Int} {l : List Int} (g : GOk n l) (s v : Nat) (hs : s < 2 ^ l.length) (hv : v < l.length) : Ev (fun k => spec_l04Least.f k n l (s : Int) (v : Int)) (leastN l s v) := by
  have p8 := pow8 _ g.len8
  have hlen := elems_len s
  refine Ev.bind (list_spec s (by omega)) ?_
  refine Ev_find (fun k i => spec_l04Least.l0 k (s : Int) (v : Int) (elems s) ((elems s).length : Int) (i : Int) n l) (elems s) (fun w => covB l s v w.toNat) (fun i k hi hp => ?_) (fun i k hi hp => ?_) (fun k => ?_) (elems s).length 0 (by omega)
  · obtain ⟨w, hw, hwl, hb⟩ := elems_vert hs _ (getD_mem (elems s) i hi)
    rw [hw, Int.toNat_natCast] at hp
    rw [spec_l04Least.l0.eq_2, if_pos (by omega), if_pos (by omega), if_pos (by omega), rd_nat, hw, cover_spec g s v w hs hv hwl, Option.bind_some, hp, if_neg (by simp), wsucc i (by omega)]
  · obtain ⟨w, hw, hwl, hb⟩ := elems_vert hs _ (getD_mem (elems s) i hi)
    rw [hw, Int.toNat_natCast] at hp
    rw [spec_l04Least.l0.eq_2, if_pos (by omega), if_pos (by omega), if_pos (by omega), rd_nat, hw, cover_spec g s v w hs hv hwl, Option.bind_some, hp, if_pos rfl]
  · rw [spec_l04Least.l0.eq_2, if_neg (by omega)]
theorem least_impl {n : Int} {l : List Int} (g : GOk n l) (s v : Nat) (hs : s < 2 ^ l.length) (hv : v < l.length) : Ev (fun k => impl_Graph_coverOf.f k n l (s : Int) (v : Int)) (leastN l s v) := by
  have p8 := pow8 _ g.len8
  have hlen := elems_len s
  refine Ev.bind (list_impl s (by omega)) ?_
  refine Ev_find (fun k i => impl_Graph_coverOf.l0 k (s : Int) (v : Int) (elems s) ((elems s).length : Int) (i : Int) n l) (elems s) (fun w => covB l s v w.toNat) (fun i k hi hp => ?_) (fun i k hi hp => ?_) (fun k => ?_) (elems s).length 0 (by omega)
  · obtain ⟨w, hw, hwl, hb⟩ := elems_vert hs _ (getD_mem (elems s) i hi)
    rw [hw, Int.toNat_natCast] at hp
    rw [impl_Graph_coverOf.l0.eq_2, if_pos (by omega), if_pos (by omega), if_pos (by omega), rd_nat, hw]
    by_cases e : v = w
    · subst e; rw [if_pos rfl, wsucc i (by omega)]
    · rw [if_neg (by omega), covers_impl g s v w hs hv hwl e hb, Option.bind_some, hp, if_neg (by simp), wsucc i (by omega)]
  · obtain ⟨w, hw, hwl, hb⟩ := elems_vert hs _ (getD_mem (elems s) i hi)
    rw [hw, Int.toNat_natCast] at hp
    have e : v ≠ w := by
      intro e; subst e; unfold covB at hp; simp at hp
    rw [impl_Graph_coverOf.l0.eq_2, if_pos (by omega), if_pos (by omega), if_pos (by omega), rd_nat, hw, if_neg (by omega), covers_impl g s v w hs hv hwl e hb, Option.bind_some, hp, if_pos rfl]
  · rw [impl_Graph_coverOf.l0.eq_2, if_neg (by omega)]
end Go.Proofs.Ythfpgclhdefiiaa.Pure
