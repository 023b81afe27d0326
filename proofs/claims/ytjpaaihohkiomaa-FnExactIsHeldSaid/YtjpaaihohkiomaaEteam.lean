/- Teams of pursuers: who is one, what it guards, whom it holds. -/
import Derived.Test.YtjpaaihohkiomaaElayout
import Derived.Test.YtjpaaihohkiomaaPAx21
import Derived.Test.YtjpaaihohkiomaaPAx22
import Derived.Test.YtjpaaihohkiomaaPAx23
import Derived.Test.YtjpaaihohkiomaaPAx24
namespace Go.Proofs.Ytjpaaihohkiomaa.Pure
open Go.RowKit Go.Proofs.YtjpaaihohkiomaaW.PrintWords Go.Proofs.YtjpaaihohkiomaaW.PrintLast Go.Proofs.Ytjpaaihohkiomaa.PA
set_option linter.unusedVariables false
set_option linter.unusedSimpArgs false
structure TOk (n : Int) (l L : List Int) : Prop where
  g : GOk n l
  six : n ≤ 6
  one : 1 ≤ L.length
  three : L.length ≤ 3
  vs : verts n L = true
open Classical in
theorem team_spec (n : Int) (l L : List Int) (hL : L.length ≤ 1000000) : Ev (fun k => spec_l06Ok.f k n l L) (decide (TOk n l L)) := by
  by_cases g : GOk n l
  · refine Ev.bind (graph_spec_t g) ?_
    simp only [↓reduceIte]
    by_cases h6 : n ≤ 6
    · simp only [show ¬ n > 6 from by omega, ↓reduceIte, in_spec, Option.bind_some]
      by_cases hl : 1 ≤ L.length ∧ L.length ≤ 3
      · have hd : decide ((1 : Int) ≤ (L.length : Int) ∧ (L.length : Int) ≤ 3) = true := by rw [decide_eq_true_eq]; omega
        simp only [hd, Bool.not_true]
        refine Ev.step (f := fun k => spec_l06Ok.l0 k L (L.length : Int) 0 n l) (fun k => by rw [spec_l06Ok.j0.eq_2, if_neg (by simp)]) ?_
        have key : (∀ j, j < L.length → decide (0 ≤ L.getD j 0 ∧ L.getD j 0 < n) = true) ↔ TOk n l L := by
          constructor
          · intro h
            refine ⟨g, h6, hl.1, hl.2, (verts_iff n L).2 (fun x hx => ?_)⟩
            obtain ⟨j, hj, rfl⟩ := List.getElem_of_mem hx
            have := h j hj
            simpa [List.getD_eq_getElem?_getD, List.getElem?_eq_getElem hj] using this
          · intro h j hj
            exact decide_eq_true ((verts_iff n L).1 h.vs _ (getD_mem L j hj))
        refine Ev_all (fun k i => spec_l06Ok.l0 k L (L.length : Int) (i : Int) n l) L.length (fun i => decide (0 ≤ L.getD i 0 ∧ L.getD i 0 < n)) false true _ (fun i k hi _ hp => ?_) (fun i k hi _ hp => ?_) (fun hall => ?_) (fun hno => by rw [decide_eq_false (fun h => hno (key.2 h))]) L.length 0 (by omega) (fun j hj => by omega)
        · rw [spec_l06Ok.l0.eq_2, if_pos (by omega), if_pos (by omega), if_pos (by omega), rd_nat, vert_spec, hp, Option.bind_some, if_pos rfl, wsucc i (by omega)]
        · rw [spec_l06Ok.l0.eq_2, if_pos (by omega), if_pos (by omega), if_pos (by omega), rd_nat, vert_spec, hp, Option.bind_some, if_neg (by simp)]
        · rw [decide_eq_true (key.1 hall)]
          exact Ev.here (fun k => by rw [spec_l06Ok.l0.eq_2, if_neg (by omega)])
      · have hd : decide ((1 : Int) ≤ (L.length : Int) ∧ (L.length : Int) ≤ 3) = false := by rw [decide_eq_false_iff_not]; omega
        simp only [hd, Bool.not_false]
        rw [decide_eq_false (fun h => hl ⟨h.one, h.three⟩)]
        exact Ev.here (fun k => by rw [spec_l06Ok.j0.eq_2, if_pos rfl])
    · simp only [show n > 6 from by omega, ↓reduceIte]
      rw [decide_eq_false (fun h => h6 h.six)]
      exact Ev.here (fun k => by rw [spec_l06Ok.j0.eq_2, if_pos rfl])
  · refine Ev.bind (graph_spec_f g) ?_
    simp only [↓reduceIte, Bool.false_eq_true]
    rw [decide_eq_false (fun h => g h.g)]
    exact Ev.here (fun k => by rw [spec_l06Ok.j0.eq_2, if_pos rfl])
open Classical in
theorem team_impl (n : Int) (l L : List Int) (hL : L.length ≤ 1000000) : Ev (fun k => impl_Graph_isTeam.f k n l L) (decide (TOk n l L)) := by
  by_cases g : GOk n l
  · have hg : Ev (fun k => impl_isTeamGraph.f k n l) (decide (n ≤ 6)) := by
      refine Ev.bind (graph_impl_t g) ?_
      simp only [↓reduceIte]; exact Ev.now _
    refine Ev.bind hg ?_
    by_cases h6 : n ≤ 6
    · simp only [decide_eq_true h6, ↓reduceIte, in_impl, Option.bind_some]
      by_cases hl : 1 ≤ L.length ∧ L.length ≤ 3
      · have hd : decide ((1 : Int) ≤ (L.length : Int) ∧ (L.length : Int) ≤ 3) = true := by rw [decide_eq_true_eq]; omega
        simp only [hd, ↓reduceIte, vert_impl n l L g.lo g.hi, Option.bind_some]
        have : verts n L = decide (TOk n l L) := by
          rw [Bool.eq_iff_iff, decide_eq_true_eq]
          exact ⟨fun h => ⟨g, h6, hl.1, hl.2, h⟩, fun h => h.vs⟩
        rw [this]; exact Ev.now _
      · have hd : decide ((1 : Int) ≤ (L.length : Int) ∧ (L.length : Int) ≤ 3) = false := by rw [decide_eq_false_iff_not]; omega
        simp only [hd, ↓reduceIte, Bool.false_eq_true]
        rw [decide_eq_false (fun h => hl ⟨h.one, h.three⟩)]; exact Ev.now _
    · simp only [decide_eq_false h6, ↓reduceIte, Bool.false_eq_true]
      rw [decide_eq_false (fun h => h6 h.six)]; exact Ev.now _
  · have hg : Ev (fun k => impl_isTeamGraph.f k n l) false := by
      refine Ev.bind (graph_impl_f g) ?_
      simp only [↓reduceIte, Bool.false_eq_true]; exact Ev.now _
    refine Ev.bind hg ?_
    simp only [↓reduceIte, Bool.false_eq_true]
    rw [decide_eq_false (fun h => g h.g)]; exact Ev.now _
theorem setof_spec (L : List Int) (hL : L.length ≤ 1000000) (hv : ∀ x ∈ L, 0 ≤ x ∧ x < 62) : Ev (fun k => spec_l06Set.f k L) (setN L : Int) := by
  have hp : ∀ x ∈ L, (2 : Nat) ^ x.toNat < 2 ^ 62 := fun x hx => Nat.pow_lt_pow_right (by decide) (by have := hv x hx; omega)
  have h := Ev_or (fun k out i => spec_l06Set.l0 k (out : Int) L (L.length : Int) (i : Int)) L (fun x => 2 ^ x.toNat) hp (fun out i k hi ho => ?_) (fun out k ho => ?_) L.length 0 0 (by omega) (by decide)
  · exact h
  · obtain ⟨v, hv2, hv3⟩ := nat_of _ _ (hv _ (getD_mem L i hi))
    have hq := hp _ (getD_mem L i hi)
    rw [hv2, Int.toNat_natCast] at hq
    show spec_l06Set.l0 (k + 1) _ _ _ _ = _
    rw [spec_l06Set.l0.eq_2, if_pos (by omega), if_pos (by omega), if_pos (by omega), rd_nat, hv2, if_pos (by omega), sShl v (by omega), bOr _ _ (by omega) (by omega), wsucc i (by omega), Int.toNat_natCast]
  · show spec_l06Set.l0 (k + 1) _ _ _ _ = _
    rw [spec_l06Set.l0.eq_2, if_neg (by omega)]
theorem TOk.small {n : Int} {l L : List Int} (h : TOk n l L) : ∀ x ∈ L, 0 ≤ x ∧ x < (l.length : Int) := fun x hx => by have := (verts_iff n L).1 h.vs x hx; have := h.g.len; omega
theorem TOk.set_lt {n : Int} {l L : List Int} (h : TOk n l L) : setN L < 2 ^ l.length := setN_lt L l.length h.small
open Classical in
theorem team_spec_t {n : Int} {l L : List Int} (h : TOk n l L) : Ev (fun k => spec_l06Ok.f k n l L) true := by have := team_spec n l L (by have := h.three; omega); rwa [decide_eq_true h] at this
open Classical in
theorem team_impl_t {n : Int} {l L : List Int} (h : TOk n l L) : Ev (fun k => impl_Graph_isTeam.f k n l L) true := by have := team_impl n l L (by have := h.three; omega); rwa [decide_eq_true h] at this
open Classical in
theorem team_spec_f {n : Int} {l L : List Int} (hL : L.length ≤ 1000000) (h : ¬ TOk n l L) : Ev (fun k => spec_l06Ok.f k n l L) false := by have := team_spec n l L hL; rwa [decide_eq_false h] at this
open Classical in
theorem team_impl_f {n : Int} {l L : List Int} (hL : L.length ≤ 1000000) (h : ¬ TOk n l L) : Ev (fun k => impl_Graph_isTeam.f k n l L) false := by have := team_impl n l L hL; rwa [decide_eq_false h] at this
end Go.Proofs.Ytjpaaihohkiomaa.Pure
