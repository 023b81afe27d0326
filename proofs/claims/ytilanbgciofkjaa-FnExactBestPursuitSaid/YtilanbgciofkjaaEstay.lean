/- A vertex and its neighbours, as a set. -/
import Derived.Test.YtilanbgciofkjaaEhold
import Derived.Test.YtilanbgciofkjaaPAx10
namespace Go.Proofs.Ytilanbgciofkjaa.Pure
open Go.RowKit Go.Proofs.YtilanbgciofkjaaW.PrintWords Go.Proofs.YtilanbgciofkjaaW.PrintLast Go.Proofs.Ytilanbgciofkjaa.PA
set_option linter.unusedVariables false
set_option linter.unusedSimpArgs false
def stayN (l : List Int) (v : Nat) : Nat := row l v ||| 2 ^ v
theorem stayN_lt {n : Int} {l : List Int} (g : GOk n l) (v : Nat) (hv : v < l.length) : stayN l v < 2 ^ l.length :=
  Nat.or_lt_two_pow (g.row_lt v hv) (Nat.pow_lt_pow_right (by decide) hv)
theorem stayN_lt8 {n : Int} {l : List Int} (g : GOk n l) (v : Nat) (hv : v < l.length) : stayN l v < 256 := Nat.lt_of_lt_of_le (stayN_lt g v hv) (pow8 _ g.len8)
theorem stayN_impl {n : Int} {l : List Int} (g : GOk n l) (v : Nat) (hv : v < l.length) : impl_Graph_stay.f n l (v : Int) = some (stayN l v : Int) := by
  have h8 := g.len8
  have hrl := g.row_lt8 v hv
  have h2v : (2 : Nat) ^ v < 2 ^ 62 := Nat.pow_lt_pow_right (by decide) (by omega)
  unfold impl_Graph_stay.f
  rw [if_pos (by omega), if_pos (by omega), rd_nat, g.row_eq v hv, bit_impl v (by omega), Option.bind_some, bOr _ _ (by omega) (by omega)]
  rfl
theorem stay_bit {l : List Int} (v i : Nat) : (stayN l v).testBit i = ((row l v).testBit i || decide (v = i)) := by
  unfold stayN; rw [Nat.testBit_or, two_bit]
theorem stay_own {l : List Int} (v : Nat) : (stayN l v).testBit v = true := by rw [stay_bit]; simp
/-- the members of a set that holds v -/
def stayL (l : List Int) (v : Nat) : List Int := elems (stayN l v)
theorem stayL_mem {n : Int} {l : List Int} (g : GOk n l) (v : Nat) (hv : v < l.length) (x : Int) (hx : x ∈ stayL l v) : ∃ u : Nat, x = (u : Int) ∧ u < l.length ∧ (stayN l v).testBit u = true := elems_vert (stayN_lt g v hv) x hx
theorem mem_stayL {n : Int} {l : List Int} (g : GOk n l) (v u : Nat) (hv : v < l.length) : (u : Int) ∈ stayL l v ↔ (u < l.length ∧ (stayN l v).testBit u = true) := by
  constructor
  · intro h
    obtain ⟨u', e, h1, h2⟩ := stayL_mem g v hv _ h
    have : u = u' := by omega
    subst this; exact ⟨h1, h2⟩
  · rintro ⟨h1, h2⟩
    exact (mem_elems _ _).2 ⟨u, rfl, by have := g.len8; omega, h2⟩
theorem own_stayL {n : Int} {l : List Int} (g : GOk n l) (v : Nat) (hv : v < l.length) : (v : Int) ∈ stayL l v := (mem_stayL g v v hv).2 ⟨hv, stay_own v⟩
theorem stay_sym {n : Int} {l : List Int} (g : GOk n l) (v u : Nat) (hv : v < l.length) (hu : u < l.length) : (stayN l v).testBit u = (stayN l u).testBit v := by
  have h : (row l v).testBit u = (row l u).testBit v := g.sym v u hv hu
  rw [stay_bit, stay_bit, h]
  congr 1
  rw [Bool.eq_iff_iff]; simp [eq_comm]
theorem stayL_len (l : List Int) (v : Nat) : (stayL l v).length ≤ 8 := elems_len _
end Go.Proofs.Ytilanbgciofkjaa.Pure
