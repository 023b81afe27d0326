/- The plain law of BestEscape. -/
import Derived.Test.YtilanbgciofkjaaVBestEscape
import Derived.Test.YtilanbgciofkjaaEstab
import Derived.Test.YtilanbgciofkjaaMb
import Derived.Test.YtilanbgciofkjaaPAx13
import Derived.Test.YtilanbgciofkjaaTescape
namespace Go.Proofs.Ytilanbgciofkjaa.Pure
open Go.RowKit Go.Proofs.YtilanbgciofkjaaW.PrintWords Go.Proofs.YtilanbgciofkjaaW.PrintLast Go.Proofs.Ytilanbgciofkjaa.PA
set_option linter.unusedVariables false
set_option linter.unusedSimpArgs false
/-- a move's number as the reference counts it -/
def numE (l : List Int) (p : Nat) (x : Int) : Int := if dist l p x.toNat < 0 then 128 else dist l p x.toNat
/-- what the reference keeps beside the best move -/
def MostOk (l : List Int) (p : Nat) (b m : Int) : Prop := (b = -1 ∧ m = -1) ∨ (0 ≤ b ∧ m = numE l p b)
theorem be_l0 {n : Nat} {l : List Int} (g : GOk (n : Int) l) {T : List Int} (hT : STab n l T) (p : Nat) (hp : p < n) (h128 : ∀ f, f < n → dist l p f < 128) (hge : ∀ f, f < n → -1 ≤ dist l p f) (L : List Int) (hL : L.length ≤ 8) (hLv : ∀ y ∈ L, ∃ u : Nat, y = (u : Int) ∧ u < n) :
    ∀ (d i : Nat) (b m : Int), i + d = L.length → b < n → MostOk l p b m → Ev (fun k => spec_BestEscape.l0 k (p : Int) T b m L (L.length : Int) (i : Int)) ((L.drop i).foldl (flightS l p) b)
  | 0, i, b, m, hi, hb, hm => by
    obtain rfl : i = L.length := by omega
    rw [List.drop_length]
    refine Ev.step (fun k => ?_) (Ev.now _)
    rw [spec_BestEscape.l0.eq_2, if_neg (by omega)]; rfl
  | d + 1, i, b, m, hi, hb, hm => by
    have h8 := g.len8
    have e := nlen g
    have hTl := hT.ins.1
    obtain ⟨u, hu, hun⟩ := hLv _ (getD_mem L i (by omega))
    have hd := hT.dist g p u hp hun
    have h1 := h128 u hun
    have h2 := hge u hun
    rw [drop_cons L i (by omega), List.foldl_cons, hu]
    have key : MostOk l p (flightS l p b (u : Int)) (if numE l p (u : Int) > m then numE l p (u : Int) else m) ∧ ((flightS l p b (u : Int) = (u : Int) ∧ numE l p (u : Int) > m) ∨ (flightS l p b (u : Int) = b ∧ ¬ numE l p (u : Int) > m)) := by
      have hn : numE l p (u : Int) = if dist l p u < 0 then 128 else dist l p u := rfl
      rcases hm with ⟨hb1, hm1⟩ | ⟨hb1, hm1⟩
      · have hgt : numE l p (u : Int) > m := by rw [hn]; split <;> omega
        have e1 : flightS l p b (u : Int) = (u : Int) := by unfold flightS; rw [if_pos (.inl (by omega))]
        rw [e1, if_pos hgt]
        exact ⟨.inr ⟨Int.natCast_nonneg _, rfl⟩, .inl ⟨rfl, hgt⟩⟩
      · have hb2 := h128 b.toNat (by omega)
        have hb3 := hge b.toNat (by omega)
        have hnb : m = if dist l p b.toNat < 0 then 128 else dist l p b.toNat := hm1
        by_cases c : dist l p b.toNat ≠ -1 ∧ (dist l p u = -1 ∨ dist l p u > dist l p b.toNat)
        · have hgt : numE l p (u : Int) > m := by rw [hn, hnb]; split <;> split <;> omega
          have e1 : flightS l p b (u : Int) = (u : Int) := by unfold flightS; rw [if_pos (.inr c)]
          rw [e1, if_pos hgt]
          exact ⟨.inr ⟨Int.natCast_nonneg _, rfl⟩, .inl ⟨rfl, hgt⟩⟩
        · have hgt : ¬ numE l p (u : Int) > m := by rw [hn, hnb]; split <;> split <;> omega
          have e1 : flightS l p b (u : Int) = b := by unfold flightS; rw [if_neg (fun h => h.elim (by omega) c)]
          rw [e1, if_neg hgt]
          exact ⟨.inr ⟨hb1, hm1⟩, .inr ⟨rfl, hgt⟩⟩
    have hb' : flightS l p b (u : Int) < n := by rcases key.2 with h | h <;> omega
    have ih := be_l0 g hT p hp h128 hge L hL hLv d (i + 1) _ _ (by omega) hb' key.1
    refine Ev.step (fun k => ?_) ih
    rw [spec_BestEscape.l0.eq_2, if_pos (by omega), if_pos (by omega), if_pos (by omega), rd_nat, hu, at_wrap p u (by omega) (by omega), if_pos (by omega), if_pos (by omega), rd_nat, hd, wsucc i (by omega)]
    have hn : numE l p (u : Int) = if dist l p u < 0 then 128 else dist l p u := rfl
    by_cases c : dist l p u < 0
    · rw [if_pos c] at hn ⊢
      rcases key.2 with ⟨h3, h4⟩ | ⟨h3, h4⟩
      · rw [h3, if_pos (by omega), if_pos h4, hn]
      · rw [h3, if_neg (by omega), if_neg h4]
    · rw [if_neg c] at hn ⊢
      rcases key.2 with ⟨h3, h4⟩ | ⟨h3, h4⟩
      · rw [h3, if_pos (by omega), if_pos h4, hn]
      · rw [h3, if_neg (by omega), if_neg h4]
theorem flight_spec_t {n : Nat} {l : List Int} (g : GOk (n : Int) l) (p f : Nat) (hp : p < n) (hf : f < n) : Ev (fun k => spec_BestEscape.f k (n : Int) l (p : Int) (f : Int)) (flightV l p f) := by
  have h8 := g.len8
  have e := nlen g
  refine Ev.bind (ok_spec_t ⟨g, by simp [verts]; omega⟩) ?_
  unfold flightV
  by_cases h : p = f
  · simp only [↓reduceIte, h]
    exact Ev.now _
  · simp only [↓reduceIte, h, show ¬ (p : Int) = (f : Int) from by omega]
    obtain ⟨T, hT, hE⟩ := table_spec g
    refine Ev.bind hE ?_
    refine Ev.bind (steps_spec g f (by omega)) ?_
    refine be_l0 g hT p hp (fun u hu => ?_) (fun u hu => ?_) (stayL l f) (stayL_len l f) (fun y hy => by obtain ⟨u, e1, hu, _⟩ := stayL_mem g f (by omega) y hy; exact ⟨u, e1, by omega⟩) (stayL l f).length 0 (-1) (-1) (by omega) (by omega) (.inl ⟨rfl, rfl⟩)
    · have h3 := hT.dist g p u hp hu
      have h4 := hT.low.2 (8 * p + u) (by omega)
      omega
    · have h3 := hT.dist g p u hp hu
      have h4 := hT.ins.2 (8 * p + u) (by omega)
      omega
end Go.Proofs.Ytilanbgciofkjaa.Pure
