/- The fox's moves: both programs tell them alike. -/
import Derived.Test.YthfpgclhdefiiaaD
import Derived.Test.YthfpgclhdefiiaaPAx28
import Derived.Test.YthfpgclhdefiiaaPAx29
import Derived.Test.YthfpgclhdefiiaaPAx32
namespace Go.Proofs.Ythfpgclhdefiiaa.Pure
open Go.RowKit Go.Proofs.YthfpgclhdefiiaaW.PrintWords Go.Proofs.YthfpgclhdefiiaaW.PrintLast Go.Proofs.Ythfpgclhdefiiaa.PA
set_option linter.unusedVariables false
set_option linter.unusedSimpArgs false
/-- where a fox at x can go -/
def runsF (l : List Int) (x : Int) : Nat := if row l x.toNat = 0 then 2 ^ x.toNat else row l x.toNat
def moveN (l : List Int) (s : Nat) : Nat := orOver (elems s) (runsF l) 0
def afterN (l : List Int) (s v : Nat) : Nat := moveN l (dif s (2 ^ v))
theorem runsF_lt {n : Int} {l : List Int} (g : GOk n l) (v : Nat) (hv : v < l.length) : runsF l (v : Int) < 2 ^ l.length := by
  unfold runsF
  rw [Int.toNat_natCast]
  split
  · exact Nat.pow_lt_pow_right (by decide) hv
  · exact g.row_lt v hv
theorem moveN_lt {n : Int} {l : List Int} (g : GOk n l) (s : Nat) (hs : s < 2 ^ l.length) : moveN l s < 2 ^ l.length := by
  refine orOver_lt _ _ _ _ (Nat.two_pow_pos _) (fun x hx => ?_)
  obtain ⟨v, rfl, hv, _⟩ := elems_vert hs x hx
  exact runsF_lt g v hv
theorem dif_lt {s m : Nat} (b : Nat) (hs : s < m) : dif s b < m := Nat.lt_of_le_of_lt Nat.and_le_left hs
theorem afterN_lt {n : Int} {l : List Int} (g : GOk n l) (s v : Nat) (hs : s < 2 ^ l.length) : afterN l s v < 2 ^ l.length := moveN_lt g _ (dif_lt _ hs)
theorem move_spec {n : Int} {l : List Int} (g : GOk n l) (s : Nat) (hs : s < 2 ^ l.length) : Ev (fun k => spec_l08Move.f k n l (s : Int)) (moveN l s : Int) := by
  have p8 := pow8 _ g.len8
  have hlen := elems_len s
  refine Ev.bind (list_spec s (by omega)) ?_
  have h := Ev_or (fun k out i => spec_l08Move.l0 k (out : Int) (elems s) ((elems s).length : Int) (i : Int) n l) (elems s) (runsF l) (fun x hx => ?_) (fun out i k hi ho => ?_) (fun out k ho => ?_) (elems s).length 0 0 (by omega) (by decide)
  · exact h
  · obtain ⟨v, rfl, hv, _⟩ := elems_vert hs x hx
    have := runsF_lt g v hv
    omega
  · obtain ⟨v, hv, hvl, hb⟩ := elems_vert hs _ (getD_mem (elems s) i hi)
    have hrow := g.row_eq v hvl
    have hrl := g.row_lt8 v hvl
    have h8 := g.len8
    have h2 : (2 : Nat) ^ v < 2 ^ 62 := Nat.pow_lt_pow_right (by decide) (by omega)
    show spec_l08Move.l0 (k + 1) _ _ _ _ _ _ = _
    rw [spec_l08Move.l0.eq_2, if_pos (by omega), if_pos (by omega), if_pos (by omega), rd_nat, hv, if_pos (by omega), if_pos (by omega), rd_nat, hrow, wsucc i (by omega), sShl v (by omega)]
    unfold runsF
    rw [Int.toNat_natCast]
    by_cases hz : row l v = 0
    · rw [if_pos (by omega), if_pos hz, hz, bOr _ _ (by omega) (by omega), bOr _ _ (Nat.or_lt_two_pow (by omega) (by omega)) (by decide), Nat.or_zero]
    · rw [if_neg (by omega), if_neg hz, bOr _ _ (by omega) (by omega)]
  · show spec_l08Move.l0 (k + 1) _ _ _ _ _ _ = _
    rw [spec_l08Move.l0.eq_2, if_neg (by omega)]
theorem after_spec {n : Int} {l : List Int} (g : GOk n l) (s v : Nat) (hs : s < 2 ^ l.length) (hv : v < l.length) : Ev (fun k => spec_l08After.f k n l (s : Int) (v : Int)) (afterN l s v : Int) := by
  have p8 := pow8 _ g.len8
  have h8 := g.len8
  have h2 : (2 : Nat) ^ v < 2 ^ 62 := Nat.pow_lt_pow_right (by decide) (by omega)
  refine Ev.congr (fun k => ?_) (Ev.bind (move_spec g (dif s (2 ^ v)) (dif_lt _ hs)) (Ev.now _))
  unfold spec_l08After.f
  rw [if_pos (by omega), sShl v (by omega), bDif _ _ (by omega) (by omega)]
theorem runs_impl {n : Int} {l : List Int} (g : GOk n l) (v : Nat) (hv : v < l.length) : impl_Graph_runs.f n l (v : Int) = some (runsF l (v : Int) : Int) := by
  have h8 := g.len8
  unfold impl_Graph_runs.f runsF
  rw [if_pos (by omega), if_pos (by omega), rd_nat, g.row_eq v hv, bit_impl v (by omega), Option.bind_some, Int.toNat_natCast]
  by_cases hz : row l v = 0
  · rw [if_pos (by omega), if_pos hz]
  · rw [if_neg (by omega), if_neg hz]
theorem after_impl {n : Int} {l : List Int} (g : GOk n l) (s v : Nat) (hs : s < 2 ^ l.length) (hv : v < l.length) : Ev (fun k => impl_Graph_afterShot.f k n l (s : Int) (v : Int)) (afterN l s v : Int) := by
  have p8 := pow8 _ g.len8
  have h8 := g.len8
  have h2 : (2 : Nat) ^ v < 2 ^ 62 := Nat.pow_lt_pow_right (by decide) (by omega)
  have hd : dif s (2 ^ v) < 2 ^ l.length := dif_lt _ hs
  have hlen := elems_len (dif s (2 ^ v))
  have h := Ev_or (fun k out i => impl_Graph_afterShot.l0 k (out : Int) (elems (dif s (2 ^ v))) ((elems (dif s (2 ^ v))).length : Int) (i : Int) n l) (elems (dif s (2 ^ v))) (runsF l) (fun x hx => ?_) (fun out i k hi ho => ?_) (fun out k ho => ?_) (elems (dif s (2 ^ v))).length 0 0 (by omega) (by decide)
  · refine Ev.congr (fun k => ?_) (Ev.bind (f := fun k L => impl_Graph_afterShot.l0 k 0 L (L.length : Int) 0 n l) (list_impl (dif s (2 ^ v)) (by omega)) h)
    unfold impl_Graph_afterShot.f
    rw [bit_impl v (by omega), Option.bind_some, bDif _ _ (by omega) (by omega)]
  · obtain ⟨u, rfl, hu, _⟩ := elems_vert hd x hx
    have := runsF_lt g u hu
    omega
  · obtain ⟨u, hu, hul, hb⟩ := elems_vert hd _ (getD_mem (elems (dif s (2 ^ v))) i hi)
    have := runsF_lt g u hul
    show impl_Graph_afterShot.l0 (k + 1) _ _ _ _ _ _ = _
    rw [impl_Graph_afterShot.l0.eq_2, if_pos (by omega), if_pos (by omega), if_pos (by omega), rd_nat, hu, runs_impl g u hul, Option.bind_some, wsucc i (by omega), bOr _ _ (by omega) (by omega)]
  · show impl_Graph_afterShot.l0 (k + 1) _ _ _ _ _ _ = _
    rw [impl_Graph_afterShot.l0.eq_2, if_neg (by omega)]
end Go.Proofs.Ythfpgclhdefiiaa.Pure
