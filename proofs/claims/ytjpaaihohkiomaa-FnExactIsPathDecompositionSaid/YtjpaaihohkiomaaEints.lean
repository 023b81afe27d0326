/- The numbers below n, as a list; and what is around a set: both programs tell it alike. -/
import Derived.Test.YtjpaaihohkiomaaD
import Derived.Test.YtjpaaihohkiomaaPAx22
import Derived.Test.YtjpaaihohkiomaaPAx24
namespace Go.Proofs.Ytjpaaihohkiomaa.Pure
open Go.RowKit Go.Proofs.YtjpaaihohkiomaaW.PrintWords Go.Proofs.YtjpaaihohkiomaaW.PrintLast Go.Proofs.Ytjpaaihohkiomaa.PA
set_option linter.unusedVariables false
set_option linter.unusedSimpArgs false
def ints (n : Nat) : List Int := (List.range n).map fun (i : Nat) => (i : Int)
theorem mem_ints (n : Nat) (x : Int) : x ∈ ints n ↔ 0 ≤ x ∧ x < (n : Int) := by
  unfold ints
  rw [List.mem_map]
  constructor
  · rintro ⟨i, hi, rfl⟩
    have := List.mem_range.1 hi
    omega
  · intro h
    exact ⟨x.toNat, List.mem_range.2 (by omega), by omega⟩
theorem ints_nodup (n : Nat) : (ints n).Nodup := by
  unfold ints
  rw [List.Nodup, List.pairwise_map]
  exact List.Pairwise.imp (fun h e => h (by omega)) (List.nodup_range (n := n))
theorem ints_len (n : Nat) : (ints n).length = n := by simp [ints]
theorem ints_at (n i : Nat) (h : i < n) : (ints n).getD i 0 = (i : Int) := by
  simp [ints, List.getD_eq_getElem?_getD, List.getElem?_range h]
def nearN (l : List Int) (s : Nat) : Nat := orOver (elems s) (fun x => row l x.toNat) s
theorem nearN_lt {n : Int} {l : List Int} (g : GOk n l) (s : Nat) (hs : s < 2 ^ l.length) : nearN l s < 2 ^ l.length := by
  refine orOver_lt _ _ _ _ hs (fun x hx => ?_)
  obtain ⟨v, rfl, hv, _⟩ := elems_vert hs x hx
  exact g.row_lt v hv
theorem near_spec {n : Int} {l : List Int} (g : GOk n l) (s : Nat) (hs : s < 2 ^ l.length) : Ev (fun k => spec_l02Near.f k n l (s : Int)) (nearN l s : Int) := by
  have p8 := pow8 _ g.len8
  have hlen := elems_len s
  refine Ev.bind (list_spec s (by omega)) ?_
  have h := Ev_or (fun k out i => spec_l02Near.l0 k (out : Int) (elems s) ((elems s).length : Int) (i : Int) n l) (elems s) (fun x => row l x.toNat) (fun x hx => ?_) (fun out i k hi ho => ?_) (fun out k ho => ?_) (elems s).length 0 s (by omega) (by omega)
  · exact h
  · obtain ⟨v, rfl, hv, _⟩ := elems_vert hs x hx
    have := g.row_lt8 v hv
    show row l v < _
    omega
  · obtain ⟨v, hv, hvl, hb⟩ := elems_vert hs _ (getD_mem (elems s) i hi)
    have hrow := g.row_eq v hvl
    have hrl := g.row_lt8 v hvl
    show spec_l02Near.l0 (k + 1) _ _ _ _ _ _ = _
    rw [spec_l02Near.l0.eq_2, if_pos (by omega), if_pos (by omega), if_pos (by omega), rd_nat, hv, if_pos (by omega), if_pos (by omega), rd_nat, hrow, wsucc i (by omega), bOr _ _ (by omega) (by omega), Int.toNat_natCast]
  · show spec_l02Near.l0 (k + 1) _ _ _ _ _ _ = _
    rw [spec_l02Near.l0.eq_2, if_neg (by omega)]
theorem near_impl {n : Int} {l : List Int} (g : GOk n l) (s : Nat) (hs : s < 2 ^ l.length) : Ev (fun k => impl_Graph_around.f k n l (s : Int)) (nearN l s : Int) := by
  have p8 := pow8 _ g.len8
  have h8 := g.len8
  have e : nearN l s = orOver (ints l.length) (fun x => if s.testBit x.toNat then row l x.toNat else 0) s := by
    apply Nat.eq_of_testBit_eq
    intro i
    unfold nearN
    rw [orOver_bit, orOver_bit]
    congr 1
    rw [Bool.eq_iff_iff, List.any_eq_true, List.any_eq_true]
    constructor
    · rintro ⟨x, hx, hb⟩
      obtain ⟨v, rfl, hv, hsb⟩ := elems_vert hs x hx
      refine ⟨(v : Int), (mem_ints _ _).2 (by omega), ?_⟩
      rw [Int.toNat_natCast] at hb ⊢
      rw [if_pos hsb]; exact hb
    · rintro ⟨x, hx, hb⟩
      have hx2 := (mem_ints _ _).1 hx
      split at hb
      · rename_i hsb
        exact ⟨x, (mem_elems s x).2 ⟨x.toNat, by omega, by omega, hsb⟩, hb⟩
      · simp at hb
  rw [e]
  have h := Ev_or (fun k out i => impl_Graph_around.l0 k (s : Int) (out : Int) l (l.length : Int) (i : Int)) (ints l.length) (fun x => if s.testBit x.toNat then row l x.toNat else 0) (fun x hx => ?_) (fun out i k hi ho => ?_) (fun out k ho => ?_) l.length 0 s (by rw [ints_len]; omega) (by omega)
  · exact h
  · have hx2 := (mem_ints _ _).1 hx
    have := g.row_lt8 x.toNat (by omega)
    show (if s.testBit x.toNat then row l x.toNat else 0) < _
    split <;> omega
  · rw [ints_len] at hi
    have hrow := g.row_eq i hi
    have hrl := g.row_lt8 i hi
    show impl_Graph_around.l0 (k + 1) _ _ _ _ _ = _
    rw [ints_at _ _ hi, Int.toNat_natCast, impl_Graph_around.l0.eq_2, if_pos (by omega), if_pos (by omega), if_pos (by omega), has_impl s i (by omega) (by omega), Option.bind_some, rd_nat, hrow, wsucc i (by omega)]
    cases hb : s.testBit i with
    | true => rw [if_pos rfl, if_pos rfl, bOr _ _ (by omega) (by omega)]
    | false => rw [if_neg (by simp), if_neg (by simp), Nat.or_zero]
  · rw [ints_len]
    show impl_Graph_around.l0 (k + 1) _ _ _ _ _ = _
    rw [impl_Graph_around.l0.eq_2, if_neg (by omega)]
end Go.Proofs.Ytjpaaihohkiomaa.Pure
