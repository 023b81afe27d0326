/- The front of a set: both programs tell it alike. -/
import Derived.Test.YthfpgclhdefiiaaD
import Derived.Test.YthfpgclhdefiiaaPAx12
import Derived.Test.YthfpgclhdefiiaaPAx4
namespace Go.Proofs.Ythfpgclhdefiiaa.Pure
open Go.RowKit Go.Proofs.YthfpgclhdefiiaaW.PrintWords Go.Proofs.YthfpgclhdefiiaaW.PrintLast Go.Proofs.Ythfpgclhdefiiaa.PA
set_option linter.unusedVariables false
set_option linter.unusedSimpArgs false
def frontF (l : List Int) (s : Nat) (x : Int) : Nat := if dif (row l x.toNat) s = 0 then 0 else 2 ^ x.toNat
def frontN (l : List Int) (s : Nat) : Nat := orOver (elems s) (frontF l s) 0
theorem frontF_lt {l : List Int} {s : Nat} (m : Nat) (h : l.length ≤ m) (hs : s < 2 ^ l.length) : ∀ x ∈ elems s, frontF l s x < 2 ^ m := by
  intro x hx
  obtain ⟨v, rfl, hv, _⟩ := elems_vert hs x hx
  unfold frontF
  split
  · exact Nat.two_pow_pos _
  · exact Nat.pow_lt_pow_right (by decide) (by rw [Int.toNat_natCast]; omega)
theorem frontN_lt {l : List Int} {s : Nat} (hs : s < 2 ^ l.length) : frontN l s < 2 ^ l.length :=
  orOver_lt _ _ _ _ (Nat.two_pow_pos _) (frontF_lt l.length (Nat.le_refl _) hs)
theorem front_spec {n : Int} {l : List Int} (g : GOk n l) (s : Nat) (hs : s < 2 ^ l.length) : Ev (fun k => spec_l09Front.f k n l (s : Int)) (frontN l s : Int) := by
  have p8 := pow8 _ g.len8
  have hlen := elems_len s
  refine Ev.bind (list_spec s (by omega)) ?_
  have h := Ev_or (fun k out i => spec_l09Front.l0 k (s : Int) (out : Int) (elems s) ((elems s).length : Int) (i : Int) n l) (elems s) (frontF l s) (fun x hx => frontF_lt 62 (by have := g.len8; omega) hs x hx) (fun out i k hi ho => ?_) (fun out k ho => ?_) (elems s).length 0 0 (by omega) (by decide)
  · exact h
  · obtain ⟨v, hv, hvl, hb⟩ := elems_vert hs _ (getD_mem (elems s) i hi)
    have hrow := g.row_eq v hvl
    have hrl := g.row_lt8 v hvl
    have h8 := g.len8
    have h2 : (2 : Nat) ^ v < 2 ^ 62 := Nat.pow_lt_pow_right (by decide) (by omega)
    show spec_l09Front.l0 (k + 1) _ _ _ _ _ _ _ = _
    rw [spec_l09Front.l0.eq_2, if_pos (by omega), if_pos (by omega), if_pos (by omega), rd_nat, hv, if_pos (by omega), if_pos (by omega), rd_nat, hrow, bDif _ _ (by omega) (by omega), wsucc i (by omega)]
    unfold frontF
    rw [Int.toNat_natCast]
    by_cases hz : dif (row l v) s = 0
    · rw [if_pos (by omega), if_pos hz, Nat.or_zero]
    · rw [if_neg (by omega), if_neg hz]
      rw [sShl v (by omega)]
      rw [bOr _ _ (by omega) (by omega)]
  · show spec_l09Front.l0 (k + 1) _ _ _ _ _ _ _ = _
    rw [spec_l09Front.l0.eq_2, if_neg (by omega)]
theorem front_impl {n : Int} {l : List Int} (g : GOk n l) (s : Nat) (hs : s < 2 ^ l.length) : Ev (fun k => impl_Graph_front.f k n l (s : Int)) (frontN l s : Int) := by
  have p8 := pow8 _ g.len8
  have hlen := elems_len s
  refine Ev.bind (list_impl s (by omega)) ?_
  have h := Ev_or (fun k out i => impl_Graph_front.l0 k (s : Int) (out : Int) (elems s) ((elems s).length : Int) (i : Int) n l) (elems s) (frontF l s) (fun x hx => frontF_lt 62 (by have := g.len8; omega) hs x hx) (fun out i k hi ho => ?_) (fun out k ho => ?_) (elems s).length 0 0 (by omega) (by decide)
  · exact h
  · obtain ⟨v, hv, hvl, hb⟩ := elems_vert hs _ (getD_mem (elems s) i hi)
    have hrow := g.row_eq v hvl
    have hrl := g.row_lt8 v hvl
    have h8 := g.len8
    have h2 : (2 : Nat) ^ v < 2 ^ 62 := Nat.pow_lt_pow_right (by decide) (by omega)
    show impl_Graph_front.l0 (k + 1) _ _ _ _ _ _ _ = _
    rw [impl_Graph_front.l0.eq_2, if_pos (by omega), if_pos (by omega), if_pos (by omega), rd_nat, hv, if_pos (by omega), if_pos (by omega), rd_nat, hrow, bDif _ _ (by omega) (by omega), wsucc i (by omega)]
    unfold frontF
    rw [Int.toNat_natCast]
    by_cases hz : dif (row l v) s = 0
    · rw [if_pos (by omega), if_pos hz, Nat.or_zero]
    · rw [if_neg (by omega), if_neg hz]
      rw [bit_impl v (by omega), Option.bind_some]
      rw [bOr _ _ (by omega) (by omega)]
  · show impl_Graph_front.l0 (k + 1) _ _ _ _ _ _ _ = _
    rw [impl_Graph_front.l0.eq_2, if_neg (by omega)]
end Go.Proofs.Ythfpgclhdefiiaa.Pure
