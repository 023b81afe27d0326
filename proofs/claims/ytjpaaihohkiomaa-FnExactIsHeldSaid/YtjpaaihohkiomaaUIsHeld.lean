/- The plain law of IsHeld. -/
import Derived.Test.YtjpaaihohkiomaaVIsHeld
import Derived.Test.YtjpaaihohkiomaaEteam
import Derived.Test.YtjpaaihohkiomaaPAx26
import Derived.Test.YtjpaaihohkiomaaPAx3
import Derived.Test.YtjpaaihohkiomaaPAx31
namespace Go.Proofs.Ytjpaaihohkiomaa.Pure
open Go.RowKit Go.Proofs.YtjpaaihohkiomaaW.PrintWords Go.Proofs.YtjpaaihohkiomaaW.PrintLast Go.Proofs.Ytjpaaihohkiomaa.PA
theorem index_ev (L : List Int) (a : Int) (hL : L.length ≤ 1000000) : ∀ d i : Nat, i + d = L.length → (∀ j, j < i → L.getD j 0 ≠ a) → ∃ r : Int, Ev (fun k => slices_Index_int_int.l0 k L a (L.length : Int) (i : Int)) r ∧ (0 ≤ r ↔ a ∈ L)
  | 0, i, hi, hj => by
    refine ⟨-1, Ev.here (fun k => by rw [slices_Index_int_int.l0.eq_2, if_neg (by omega)]), ⟨fun h => by omega, fun h => ?_⟩⟩
    obtain ⟨j, hjl, rfl⟩ := List.getElem_of_mem h
    exact absurd (by simp [List.getD_eq_getElem?_getD, List.getElem?_eq_getElem hjl]) (hj j (by omega))
  | d + 1, i, hi, hj => by
    by_cases e : a = L.getD i 0
    · refine ⟨(i : Int), Ev.here (fun k => ?_), ⟨fun _ => e ▸ getD_mem L i (by omega), fun _ => by omega⟩⟩
      rw [slices_Index_int_int.l0.eq_2, if_pos (by omega), if_pos (by omega), if_pos (by omega), rd_nat, if_pos e]
    · obtain ⟨r, h1, h2⟩ := index_ev L a hL d (i + 1) (by omega) (fun j h => if e2 : j = i then e2 ▸ fun e3 => e e3.symm else hj j (by omega))
      refine ⟨r, Ev.step (fun k => ?_) h1, h2⟩
      rw [slices_Index_int_int.l0.eq_2, if_pos (by omega), if_pos (by omega), if_pos (by omega), rd_nat, if_neg e, wsucc i (by omega)]
theorem contains_ev (L : List Int) (a : Int) (hL : L.length ≤ 1000000) : Ev (fun k => slices_Contains_int_int.f k L a) (decide (a ∈ L)) := by
  obtain ⟨r, h1, h2⟩ := index_ev L a hL L.length 0 (by omega) (fun j h => absurd h (Nat.not_lt_zero _))
  have e : decide (a ∈ L) = decide (r ≥ 0) := by rw [Bool.eq_iff_iff, decide_eq_true_eq, decide_eq_true_eq]; exact h2.symm
  rw [e]
  exact Ev.bind h1 (Ev.now _)
theorem stay_impl {n : Int} {l : List Int} (g : GOk n l) (v : Nat) (hv : v < l.length) : impl_Graph_stay.f n l (v : Int) = some ((row l v ||| 2 ^ v : Nat) : Int) := by
  have h8 := g.len8
  have hrl := g.row_lt8 v hv
  have h2v : (2 : Nat) ^ v < 2 ^ 62 := Nat.pow_lt_pow_right (by decide) (by omega)
  unfold impl_Graph_stay.f
  rw [if_pos (by omega), if_pos (by omega), rd_nat, g.row_eq v hv, bit_impl v (by omega), Option.bind_some, bOr _ _ (by omega) (by omega)]
theorem stay_lt {n : Int} {l : List Int} (g : GOk n l) (v : Nat) (hv : v < l.length) : row l v ||| 2 ^ v < 2 ^ l.length :=
  Nat.or_lt_two_pow (g.row_lt v hv) (Nat.pow_lt_pow_right (by decide) hv)
theorem IsHeld_holds : IsHeld := by
  intro n l L a _ _ _ _ hl
  by_cases h : TOk n l L
  · have h8 := h.g.len8
    have hn := h.g.len
    have p8 := pow8 _ h8
    have hm : ∀ x ∈ L, 0 ≤ x ∧ x < 62 := fun x hx => by have := h.small x hx; omega
    have hvi : impl_Graph_isVertex.f n l [a] = some (decide (0 ≤ a ∧ a < n)) := by rw [vert_impl n l [a] h.g.lo h.g.hi]; simp [verts]
    by_cases hb : 0 ≤ a ∧ a < n
    · obtain ⟨v, rfl, hvn⟩ : ∃ v : Nat, a = (v : Int) ∧ (v : Int) < n := ⟨a.toNat, by omega, by omega⟩
      have hvl : v < l.length := by omega
      have hs := h.set_lt
      have hbit := setN_bit L (fun x hx => (hm x hx).1) v
      by_cases hc : (v : Int) ∈ L
      · have hb1 : (setN L).testBit v = true := by rw [hbit, decide_eq_true hc]
        refine both_ev (r := false) (Ev.bind (team_spec_t h) ?_) (Ev.bind (team_impl_t h) ?_)
        · simp only [↓reduceIte, vert_spec, decide_eq_true hb, Option.bind_some]
          refine Ev.bind (setof_spec L (by omega) hm) ?_
          simp only [has_spec (setN L) v (by omega) (by omega), hb1, Option.bind_some, ↓reduceIte]
          exact Ev.now _
        · simp only [↓reduceIte, hvi, decide_eq_true hb, Option.bind_some]
          refine Ev.bind (contains_ev L v (by omega)) ?_
          simp only [decide_eq_true hc, ↓reduceIte]
          exact Ev.now _
      · have hb1 : (setN L).testBit v = false := by rw [hbit, decide_eq_false hc]
        have hst := stay_lt h.g v hvl
        have hnr := nearN_lt h.g (setN L) hs
        have hrl := h.g.row_lt8 v hvl
        have h2v : (2 : Nat) ^ v < 2 ^ 62 := Nat.pow_lt_pow_right (by decide) (by omega)
        refine both_ev (r := (((dif (row l v ||| 2 ^ v) (nearN l (setN L)) : Nat) : Int) == 0)) (Ev.bind (team_spec_t h) ?_) (Ev.bind (team_impl_t h) ?_)
        · simp only [↓reduceIte, vert_spec, decide_eq_true hb, Option.bind_some]
          refine Ev.bind (setof_spec L (by omega) hm) ?_
          simp only [has_spec (setN L) v (by omega) (by omega), hb1, Option.bind_some, ↓reduceIte, Bool.false_eq_true, show (0 : Int) ≤ (v : Int) from by omega, show (v : Int) < (l.length : Int) from by omega]
          refine Ev.bind (setof_spec L (by omega) hm) (Ev.bind (near_spec h.g _ hs) ?_)
          refine Ev.always (fun k => ?_)
          rw [rd_nat, h.g.row_eq v hvl, sShl v (by omega), bOr _ _ (by omega) (by omega), bDif _ _ (by omega) (by omega)]
        · simp only [↓reduceIte, hvi, decide_eq_true hb, Option.bind_some]
          refine Ev.bind (contains_ev L v (by omega)) ?_
          simp only [decide_eq_false hc, ↓reduceIte, Bool.false_eq_true, stay_impl h.g v hvl, Option.bind_some]
          refine Ev.bind (a := (setN L : Int)) (setof_impl L (by omega) hm) (Ev.bind (near_impl h.g _ hs) ?_)
          refine Ev.always (fun k => ?_)
          rw [bDif _ _ (by omega) (by omega)]
    · refine both_ev (r := false) (Ev.bind (team_spec_t h) ?_) (Ev.bind (team_impl_t h) ?_)
      · simp only [↓reduceIte, vert_spec, decide_eq_false hb, Option.bind_some, Bool.false_eq_true]; exact Ev.now _
      · simp only [↓reduceIte, hvi, decide_eq_false hb, Option.bind_some, Bool.false_eq_true]; exact Ev.now _
  · refine both_ev (r := false) (Ev.bind (team_spec_f (by omega) h) ?_) (Ev.bind (team_impl_f (by omega) h) ?_)
    · simp only [↓reduceIte, Bool.false_eq_true]; exact Ev.now _
    · simp only [↓reduceIte, Bool.false_eq_true]; exact Ev.now _
end Go.Proofs.Ytjpaaihohkiomaa.Pure
