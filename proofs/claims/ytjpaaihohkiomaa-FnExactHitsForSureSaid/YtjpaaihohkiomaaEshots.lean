/- Many shots: both programs tell alike where the fox can be. -/
import Derived.Test.YtjpaaihohkiomaaEfox
import Derived.Test.YtjpaaihohkiomaaPAx28
import Derived.Test.YtjpaaihohkiomaaPAx29
import Derived.Test.YtjpaaihohkiomaaPAx7
namespace Go.Proofs.Ytjpaaihohkiomaa.Pure
open Go.RowKit Go.Proofs.YtjpaaihohkiomaaW.PrintWords Go.Proofs.YtjpaaihohkiomaaW.PrintLast Go.Proofs.Ytjpaaihohkiomaa.PA
set_option linter.unusedVariables false
set_option linter.unusedSimpArgs false
def shotsN (l : List Int) (L : List Int) (s : Nat) : Nat := L.foldl (fun s x => afterN l s x.toNat) s
theorem verts_mem {n : Int} {L : List Int} (h : verts n L = true) (x : Int) (hx : x ∈ L) : 0 ≤ x ∧ x < n := by
  unfold verts at h
  rw [List.all_eq_true] at h
  exact of_decide_eq_true (h x hx)
theorem hold_t {n : Int} {l L : List Int} (g : GOk n l) (h : verts n L = true) : Ev (fun k => impl_Graph_hold.f k n l L) true := by
  refine Ev.bind (graph_impl_t g) ?_
  simp only [↓reduceIte, vert_impl n l L g.lo g.hi, Option.bind_some, h]; exact Ev.now _
theorem hold_f {n : Int} {l L : List Int} (h : ¬ (GOk n l ∧ verts n L = true)) : Ev (fun k => impl_Graph_hold.f k n l L) false := by
  by_cases g : GOk n l
  · refine Ev.bind (graph_impl_t g) ?_
    have h2 : verts n L = false := by cases hv : verts n L with | true => exact absurd ⟨g, hv⟩ h | false => rfl
    simp only [↓reduceIte, vert_impl n l L g.lo g.hi, Option.bind_some, h2]; exact Ev.now _
  · refine Ev.bind (graph_impl_f g) ?_
    simp only [↓reduceIte, Bool.false_eq_true]; exact Ev.now _
theorem pow_int (n : Nat) : ((2 ^ n : Nat) : Int) - 1 = ((2 ^ n - 1 : Nat) : Int) := by have := Nat.one_le_two_pow (n := n); omega
theorem shots_l1_spec {n : Int} {l : List Int} (g : GOk n l) (L : List Int) (hL : L.length ≤ 1000000) (hv : ∀ x ∈ L, 0 ≤ x ∧ x < n) (s : Nat) (hs : s < 2 ^ l.length) :
    Ev (fun k => spec_AfterShots.l1 k (s : Int) L (L.length : Int) (0 : Int) n l) (shotsN l L s : Int) := by
  have hn := g.len
  have h := Ev_fold (fun k (s : Nat) i => spec_AfterShots.l1 k (s : Int) L (L.length : Int) (i : Int) n l) L (fun s x => afterN l s x.toNat) (fun s => s < 2 ^ l.length) (fun s => (s : Int)) (fun s i hi hs => ?_) (fun s hs => ?_) L.length 0 s (by omega) hs
  · exact h
  · have hx := hv _ (getD_mem L i hi)
    refine ⟨afterN_lt g _ _ hs, fun r hr => ?_⟩
    refine Ev.step (fun k => ?_) (Ev.bind (f := fun k t => spec_AfterShots.l1 k t L (L.length : Int) ((i + 1 : Nat) : Int) n l) (after_spec g s (L.getD i 0).toNat hs (by omega)) hr)
    rw [spec_AfterShots.l1.eq_2, if_pos (by omega), if_pos (by omega), if_pos (by omega), rd_nat, wsucc i (by omega)]
    rw [show (((L.getD i 0).toNat : Nat) : Int) = L.getD i 0 from by omega]
  · refine Ev.here (fun k => ?_)
    rw [spec_AfterShots.l1.eq_2, if_neg (by omega)]
theorem shots_l0_impl {n : Int} {l : List Int} (g : GOk n l) (L : List Int) (hL : L.length ≤ 1000000) (hv : ∀ x ∈ L, 0 ≤ x ∧ x < n) (s : Nat) (hs : s < 2 ^ l.length) :
    Ev (fun k => impl_AfterShots.l0 k (s : Int) L (L.length : Int) (0 : Int) n l) (shotsN l L s : Int) := by
  have hn := g.len
  have h := Ev_fold (fun k (s : Nat) i => impl_AfterShots.l0 k (s : Int) L (L.length : Int) (i : Int) n l) L (fun s x => afterN l s x.toNat) (fun s => s < 2 ^ l.length) (fun s => (s : Int)) (fun s i hi hs => ?_) (fun s hs => ?_) L.length 0 s (by omega) hs
  · exact h
  · have hx := hv _ (getD_mem L i hi)
    refine ⟨afterN_lt g _ _ hs, fun r hr => ?_⟩
    refine Ev.step (fun k => ?_) (Ev.bind (f := fun k t => impl_AfterShots.l0 k t L (L.length : Int) ((i + 1 : Nat) : Int) n l) (after_impl g s (L.getD i 0).toNat hs (by omega)) hr)
    rw [impl_AfterShots.l0.eq_2, if_pos (by omega), if_pos (by omega), if_pos (by omega), rd_nat, wsucc i (by omega)]
    rw [show (((L.getD i 0).toNat : Nat) : Int) = L.getD i 0 from by omega]
  · refine Ev.here (fun k => ?_)
    rw [impl_AfterShots.l0.eq_2, if_neg (by omega)]
/-- what both programs tell -/
def ShotsOk (n : Int) (l L : List Int) : Prop := (GOk n l ∧ verts n L = true) ∧ L.length ≤ 100
theorem shots_t {n : Int} {l L : List Int} (h : ShotsOk n l L) : Ev (fun k => spec_AfterShots.f k n l L) (shotsN l L (2 ^ l.length - 1) : Int) ∧ Ev (fun k => impl_AfterShots.f k n l L) (shotsN l L (2 ^ l.length - 1) : Int) := by
  obtain ⟨⟨g, hv⟩, hl⟩ := h
  have hn := g.len
  have h8 := g.len8
  have hm := verts_mem hv
  have hs : 2 ^ l.length - 1 < 2 ^ l.length := by have := Nat.one_le_two_pow (n := l.length); omega
  have hd : decide ((L.length : Int) > 100) = false := by rw [decide_eq_false_iff_not]; omega
  constructor
  · refine Ev.bind (graph_spec_t g) ?_
    simp only [↓reduceIte, hd]
    refine Ev.step (f := fun k => spec_AfterShots.l0 k L L (L.length : Int) 0 n l) (fun k => by rw [spec_AfterShots.j0.eq_2, if_neg (by simp)]) ?_
    refine Ev_all (fun k i => spec_AfterShots.l0 k L L (L.length : Int) (i : Int) n l) L.length (fun i => decide (0 ≤ L.getD i 0 ∧ L.getD i 0 < n)) (-1) (shotsN l L (2 ^ l.length - 1) : Int) _ (fun i k hi hp => ?_) (fun i k hi hp => ?_) (fun _ => ?_) (fun hno => absurd (fun j hj => decide_eq_true (hm _ (getD_mem L j hj))) hno) L.length 0 (by omega) (fun j hj => by omega)
    · rw [spec_AfterShots.l0.eq_2, if_pos (by omega), if_pos (by omega), if_pos (by omega), rd_nat, vert_spec, hp, Option.bind_some, if_pos rfl, wsucc i (by omega)]
    · have := decide_eq_true (hm _ (getD_mem L i hi)); rw [hp] at this; cases this
    · refine Ev.step (fun k => ?_) (shots_l1_spec g L (by omega) hm _ hs)
      rw [spec_AfterShots.l0.eq_2, if_neg (by omega), if_pos (by omega), ← hn, sShl _ (by omega), two_wrap _ (by omega), pow_int]
  · refine Ev.bind (hold_t g hv) ?_
    simp only [↓reduceIte, hd]
    refine Ev.step (fun k => ?_) (shots_l0_impl g L (by omega) hm _ hs)
    rw [impl_AfterShots.j0.eq_2, if_neg (by simp), ← hn, all_impl _ _ (by omega), Option.bind_some, pow_int, hn]
theorem shots_f {n : Int} {l L : List Int} (hL : L.length ≤ 1000000) (h : ¬ ShotsOk n l L) : Ev (fun k => spec_AfterShots.f k n l L) (-1) ∧ Ev (fun k => impl_AfterShots.f k n l L) (-1) := by
  by_cases hg : GOk n l
  · by_cases hl : L.length ≤ 100
    · have hv : verts n L = false := by cases hv : verts n L with | true => exact absurd ⟨⟨hg, hv⟩, hl⟩ h | false => rfl
      have hd : decide ((L.length : Int) > 100) = false := by rw [decide_eq_false_iff_not]; omega
      constructor
      · refine Ev.bind (graph_spec_t hg) ?_
        simp only [↓reduceIte, hd]
        refine Ev.step (f := fun k => spec_AfterShots.l0 k L L (L.length : Int) 0 n l) (fun k => by rw [spec_AfterShots.j0.eq_2, if_neg (by simp)]) ?_
        have hno : ¬ ∀ j, j < L.length → decide (0 ≤ L.getD j 0 ∧ L.getD j 0 < n) = true := by
          intro hall
          have : verts n L = true := by
            unfold verts
            rw [List.all_eq_true]
            intro x hx
            obtain ⟨j, hj, rfl⟩ := List.getElem_of_mem hx
            have := hall j hj
            simpa [List.getD_eq_getElem?_getD, List.getElem?_eq_getElem hj] using this
          rw [hv] at this; cases this
        refine Ev_all (fun k i => spec_AfterShots.l0 k L L (L.length : Int) (i : Int) n l) L.length (fun i => decide (0 ≤ L.getD i 0 ∧ L.getD i 0 < n)) (-1) (-1) _ (fun i k hi hp => ?_) (fun i k hi hp => ?_) (fun hall => absurd hall hno) (fun _ => rfl) L.length 0 (by omega) (fun j hj => by omega)
        · rw [spec_AfterShots.l0.eq_2, if_pos (by omega), if_pos (by omega), if_pos (by omega), rd_nat, vert_spec, hp, Option.bind_some, if_pos rfl, wsucc i (by omega)]
        · rw [spec_AfterShots.l0.eq_2, if_pos (by omega), if_pos (by omega), if_pos (by omega), rd_nat, vert_spec, hp, Option.bind_some, if_neg (by simp)]
      · refine Ev.bind (hold_f (fun hh => by rw [hv] at hh; cases hh.2)) ?_
        simp only [↓reduceIte, Bool.false_eq_true]
        exact Ev.here (fun k => by rw [impl_AfterShots.j0.eq_2, if_pos rfl])
    · have hd : decide ((L.length : Int) > 100) = true := by rw [decide_eq_true_eq]; omega
      constructor
      · refine Ev.bind (graph_spec_t hg) ?_
        simp only [↓reduceIte, hd]
        exact Ev.here (fun k => by rw [spec_AfterShots.j0.eq_2, if_pos rfl])
      · by_cases hv : verts n L = true
        · refine Ev.bind (hold_t hg hv) ?_
          simp only [↓reduceIte, hd]
          exact Ev.here (fun k => by rw [impl_AfterShots.j0.eq_2, if_pos rfl])
        · refine Ev.bind (hold_f (fun hh => hv hh.2)) ?_
          simp only [↓reduceIte, Bool.false_eq_true]
          exact Ev.here (fun k => by rw [impl_AfterShots.j0.eq_2, if_pos rfl])
  · constructor
    · refine Ev.bind (graph_spec_f hg) ?_
      simp only [↓reduceIte, Bool.false_eq_true]
      exact Ev.here (fun k => by rw [spec_AfterShots.j0.eq_2, if_pos rfl])
    · refine Ev.bind (hold_f (fun hh => hg hh.1)) ?_
      simp only [↓reduceIte, Bool.false_eq_true]
      exact Ev.here (fun k => by rw [impl_AfterShots.j0.eq_2, if_pos rfl])
theorem shots_both (n : Int) (l L : List Int) (hL : L.length ≤ 1000000) : ∃ r : Int, Ev (fun k => spec_AfterShots.f k n l L) r ∧ Ev (fun k => impl_AfterShots.f k n l L) r := by
  by_cases h : ShotsOk n l L
  · exact ⟨_, shots_t h⟩
  · exact ⟨_, shots_f hL h⟩
end Go.Proofs.Ytjpaaihohkiomaa.Pure
