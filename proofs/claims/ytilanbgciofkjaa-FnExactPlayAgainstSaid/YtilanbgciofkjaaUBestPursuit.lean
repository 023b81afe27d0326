/- The plain law of BestPursuit. -/
import Derived.Test.YtilanbgciofkjaaPAx12
import Derived.Test.YtilanbgciofkjaaTbest
import GoSem.Claim
import Derived.Test.YtilanbgciofkjaaEstab
import Derived.Test.YtilanbgciofkjaaMb
import Derived.Test.YtilanbgciofkjaaPAx7
namespace Go.Proofs.Ytilanbgciofkjaa.Pure
open Go.RowKit Go.Proofs.YtilanbgciofkjaaW.PrintWords Go.Proofs.YtilanbgciofkjaaW.PrintLast Go.Proofs.Ytilanbgciofkjaa.PA
set_option linter.unusedVariables false
set_option linter.unusedSimpArgs false
theorem bp_moves_t {n : Nat} {l : List Int} (g : GOk (n : Int) l) (p f : Nat) (hp : p < n) (hf : f < n) : Ev (fun k => spec_PursuerMoves.f k (n : Int) l (p : Int) (f : Int)) (dist l p f) := by
  have h8 := g.len8
  have e := nlen g
  obtain ⟨T, hT, hE⟩ := table_spec g
  have hl := hT.ins.1
  refine Ev.bind (ok_spec_t ⟨g, by simp [verts]; omega⟩) ?_
  simp only [↓reduceIte]
  refine Ev.bind hE ?_
  rw [at_wrap p f (by omega) (by omega)]
  simp only [show (0 : Int) ≤ ((8 * p + f : Nat) : Int) from Int.natCast_nonneg _, show ((8 * p + f : Nat) : Int) < (T.length : Int) from by omega, ↓reduceIte, rd_nat, hT.dist g p f hp hf]
  exact Ev.now _
theorem bp_l0 {n : Nat} {l : List Int} (g : GOk (n : Int) l) {T : List Int} (hT : STab n l T) (f : Nat) (hf : f < n) (v : Int) (hv0 : -1 ≤ v) (hv1 : v ≤ 1000) (L : List Int) (hL : L.length ≤ 8) (hLv : ∀ y ∈ L, ∃ u : Nat, y = (u : Int) ∧ u < n) :
    ∀ (d i : Nat), i + d = L.length → Ev (fun k => spec_BestPursuit.l0 k (f : Int) v T L (L.length : Int) (i : Int) (n : Int) l) (((L.drop i).find? fun x => decide (edist l x.toNat f = v - 1)).getD (-1))
  | 0, i, hi => by
    obtain rfl : i = L.length := by omega
    rw [List.drop_length]
    refine Ev.step (fun k => ?_) (Ev.now _)
    rw [spec_BestPursuit.l0.eq_2, if_neg (by omega)]; rfl
  | d + 1, i, hi => by
    have h8 := g.len8
    have e := nlen g
    obtain ⟨u, hu, hun⟩ := hLv _ (getD_mem L i (by omega))
    have hw := worst_spec g T hT.ins u f (by omega) (by omega)
    rw [hT.edist g u f hun hf] at hw
    have ev : wrap64 (v - 1) = v - 1 := by unfold wrap64; omega
    rw [drop_cons L i (by omega), List.find?_cons]
    refine Ev.step (fun k => ?_) (Ev.bind hw (f := fun k t213 => if t213 = (wrap64 (v - 1)) then (some (rd L (i : Int))) else (spec_BestPursuit.l0 k (f : Int) v T L (L.length : Int) (wrap64 ((i : Int) + 1)) (n : Int) l)) ?_)
    · rw [spec_BestPursuit.l0.eq_2, if_pos (by omega), if_pos (by omega), if_pos (by omega), rd_nat, hu]
    · rw [ev, rd_nat, hu, Int.toNat_natCast]
      by_cases c : edist l u f = v - 1
      · simp only [c, ↓reduceIte, decide_true]
        exact Ev.now _
      · simp only [c, ↓reduceIte, decide_false]
        rw [wsucc i (by omega)]
        exact bp_l0 g hT f hf v hv0 hv1 L hL hLv d (i + 1) (by omega)
theorem dist_in (l : List Int) (p f : Nat) : -1 ≤ dist l p f ∧ dist l p f ≤ 1000 := by
  rcases leastK_cases (fun k => win l k p f) with ⟨h1, _⟩ | ⟨k, hk, h1, _⟩
  · have : dist l p f = -1 := h1
    omega
  · have : dist l p f = (k : Int) := h1
    omega
theorem purs_spec_t {n : Nat} {l : List Int} (g : GOk (n : Int) l) (p f : Nat) (hp : p < n) (hf : f < n) : Ev (fun k => spec_BestPursuit.f k (n : Int) l (p : Int) (f : Int)) (pursV l p f) := by
  have h8 := g.len8
  have e := nlen g
  have hd := dist_in l p f
  refine Ev.bind (bp_moves_t g p f hp hf) ?_
  unfold pursV
  by_cases h1 : dist l p f = -1
  · simp only [h1, show (-1 : Int) < 0 from by decide, show ¬ (-1 : Int) = 0 from by decide, ↓reduceIte]
    exact Ev.now _
  · by_cases h0 : dist l p f = 0
    · simp only [h0, show ¬ (0 : Int) < 0 from by decide, ↓reduceIte]
      exact Ev.now _
    · simp only [h0, h1, show ¬ dist l p f < 0 from by omega, ↓reduceIte]
      obtain ⟨T, hT, hE⟩ := table_spec g
      refine Ev.bind hE ?_
      refine Ev.bind (steps_spec g p (by omega)) ?_
      exact bp_l0 g hT f hf _ hd.1 hd.2 (stayL l p) (stayL_len l p) (fun y hy => by obtain ⟨u, e1, hu, _⟩ := stayL_mem g p (by omega) y hy; exact ⟨u, e1, by omega⟩) (stayL l p).length 0 (by omega)
end Go.Proofs.Ytilanbgciofkjaa.Pure
