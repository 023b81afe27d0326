/- The reference's WinningStarts and CaptureTime. -/
import Derived.Test.YtilanbgciofkjaaEstab
import Derived.Test.YtilanbgciofkjaaEstarts
import Derived.Test.YtilanbgciofkjaaPAx14
import Derived.Test.YtilanbgciofkjaaPAx15
import Derived.Test.YtilanbgciofkjaaPAx16
namespace Go.Proofs.Ytilanbgciofkjaa.Pure
open Go.RowKit Go.Proofs.YtilanbgciofkjaaW.PrintWords Go.Proofs.YtilanbgciofkjaaW.PrintLast Go.Proofs.Ytilanbgciofkjaa.PA
set_option linter.unusedVariables false
set_option linter.unusedSimpArgs false
/-- the greatest number of moves from p, f and the later ones seen; -1 for never -/
def farL (l : List Int) (n p : Nat) : Nat → Nat → Int → Int
  | 0, f, m => m
  | d + 1, f, m => if dist l p f < 0 then -1 else farL l n p d (f + 1) (mx m (dist l p f))
theorem farL_le (l : List Int) (n p : Nat) (k : Int) : ∀ (d f : Nat) (m : Int), 0 ≤ m → ((0 ≤ farL l n p d f m ∧ farL l n p d f m ≤ k) ↔ (m ≤ k ∧ ∀ j, f ≤ j → j < f + d → 0 ≤ dist l p j ∧ dist l p j ≤ k))
  | 0, f, m, h0 => by
    unfold farL
    exact ⟨fun h => ⟨h.2, fun j h1 h2 => by omega⟩, fun h => ⟨h0, h.1⟩⟩
  | d + 1, f, m, h0 => by
    unfold farL
    by_cases c : dist l p f < 0
    · rw [if_pos c]
      constructor
      · intro h; omega
      · intro h; have := h.2 f (Nat.le_refl _) (by omega); omega
    · rw [if_neg c, farL_le l n p k d (f + 1) _ (by unfold mx; split <;> omega)]
      have e : mx m (dist l p f) ≤ k ↔ m ≤ k ∧ dist l p f ≤ k := by unfold mx; split <;> omega
      rw [e]
      constructor
      · rintro ⟨⟨h1, h2⟩, h3⟩
        refine ⟨h1, fun j h4 h5 => ?_⟩
        by_cases c2 : j = f
        · subst c2; omega
        · exact h3 j (by omega) (by omega)
      · rintro ⟨h1, h2⟩
        exact ⟨⟨h1, (h2 f (Nat.le_refl _) (by omega)).2⟩, fun j h3 h4 => h2 j (by omega) (by omega)⟩
def farV (l : List Int) (n p : Nat) : Int := farL l n p n 0 0
theorem far_l0 {n : Nat} {l : List Int} (g : GOk (n : Int) l) {T : List Int} (hT : STab n l T) (p : Nat) (hp : p < n) : ∀ (d f : Nat) (m : Int), f + d = n → Ev (fun k => spec_l05Far.l0 k T (p : Int) m (f : Int) (n : Int) l) (farL l n p d f m)
  | 0, f, m, hf => by
    refine Ev.step (fun k => ?_) (Ev.now _)
    rw [spec_l05Far.l0.eq_2, if_neg (by omega)]; rfl
  | d + 1, f, m, hf => by
    have h8 := g.len8
    have e := nlen g
    have hTl := hT.ins.1
    have hd := hT.dist g p f hp (by omega)
    unfold farL
    by_cases c : dist l p f < 0
    · rw [if_pos c]
      refine Ev.step (fun k => ?_) (Ev.now _)
      rw [spec_l05Far.l0.eq_2, if_pos (by omega), at_wrap p f (by omega) (by omega), if_pos (by omega), if_pos (by omega), rd_nat, hd, if_pos c]
    · rw [if_neg c]
      refine Ev.step (fun k => ?_) (far_l0 g hT p hp d (f + 1) _ (by omega))
      rw [spec_l05Far.l0.eq_2, if_pos (by omega), at_wrap p f (by omega) (by omega), if_pos (by omega), if_pos (by omega), rd_nat, hd, if_neg c, wsucc f (by omega)]
theorem far_spec {n : Nat} {l : List Int} (g : GOk (n : Int) l) {T : List Int} (hT : STab n l T) (p : Nat) (hp : p < n) : Ev (fun k => spec_l05Far.f k (n : Int) l T (p : Int)) (farV l n p) := far_l0 g hT p hp n 0 0 (by omega)
theorem far_ge (l : List Int) (n p : Nat) : ∀ (d f : Nat) (m : Int), 0 ≤ m → -1 ≤ farL l n p d f m
  | 0, f, m, h0 => by unfold farL; omega
  | d + 1, f, m, h0 => by
    unfold farL
    split
    · omega
    · exact far_ge l n p d (f + 1) _ (by unfold mx; split <;> omega)
theorem far_wins (l : List Int) (n p : Nat) : decide (farV l n p ≥ 0) = winsFrom l n p := by
  unfold winsFrom farV
  rw [Bool.eq_iff_iff, decide_eq_true_eq, List.all_eq_true]
  have h := farL_le l n p (max (farL l n p n 0 0) 1000) n 0 0 (by omega)
  have hin : ∀ f, -1 ≤ dist l p f ∧ dist l p f ≤ 1000 := fun f => by
    rcases leastK_cases (fun k => win l k p f) with ⟨h1, _⟩ | ⟨k, hk, h1, _⟩
    · have : dist l p f = -1 := h1
      omega
    · have : dist l p f = (k : Int) := h1
      omega
  constructor
  · intro h0 f hf
    have hfn := List.mem_range.1 hf
    have h2 := (h.1 ⟨h0, by omega⟩).2 f (Nat.zero_le _) (by omega)
    rw [decide_eq_true_eq]; omega
  · intro h0
    refine (h.2 ⟨by omega, fun f _ hf => ?_⟩).1
    have h3 := h0 f (List.mem_range.2 (by omega))
    rw [decide_eq_true_eq] at h3
    have := hin f
    omega
theorem starts_l0 {n : Nat} {l : List Int} (g : GOk (n : Int) l) {T : List Int} (hT : STab n l T) : ∀ (d p : Nat), p + d = n → Ev (fun k => spec_WinningStarts.l0 k T (numsOf (winsFrom l n) p) (p : Int) (n : Int) l) (numsOf (winsFrom l n) n)
  | 0, p, hp => by
    obtain rfl : p = n := by omega
    refine Ev.step (fun k => ?_) (Ev.now _)
    rw [spec_WinningStarts.l0.eq_2, if_neg (by omega)]
  | d + 1, p, hp => by
    have h8 := g.len8
    have e := nlen g
    have ih := starts_l0 g hT d (p + 1) (by omega)
    have hl := numsOf_len (winsFrom l n) p
    have hw := far_wins l n p
    rw [numsOf_succ] at ih
    refine Ev.step (fun k => ?_) (Ev.bind (far_spec g hT p (by omega)) (f := fun k t244 => if t244 ≥ 0 then (if (numsOf (winsFrom l n) p).length < 17592186044416 then (spec_WinningStarts.l0 k T (numsOf (winsFrom l n) p ++ [(p : Int)]) (wrap64 ((p : Int) + 1)) (n : Int) l) else (none)) else (spec_WinningStarts.l0 k T (numsOf (winsFrom l n) p) (wrap64 ((p : Int) + 1)) (n : Int) l)) ?_)
    · rw [spec_WinningStarts.l0.eq_2, if_pos (by omega)]
    · cases hc : winsFrom l n p with
      | true =>
        rw [hc] at ih hw
        rw [if_pos rfl] at ih
        simp only [of_decide_eq_true hw, ↓reduceIte, show (numsOf (winsFrom l n) p).length < 17592186044416 from by omega, wsucc p (by omega)]
        exact ih
      | false =>
        rw [hc] at ih hw
        rw [if_neg (by decide)] at ih
        simp only [of_decide_eq_false hw, ↓reduceIte, wsucc p (by omega)]
        exact ih
theorem starts_spec_t {n : Nat} {l : List Int} (g : GOk (n : Int) l) : Ev (fun k => spec_WinningStarts.f k (n : Int) l) (startsV l n) := by
  obtain ⟨T, hT, hE⟩ := table_spec g
  refine Ev.bind (graph_spec_t g) ?_
  simp only [↓reduceIte]
  exact Ev.bind hE (starts_l0 g hT n 0 (by omega))
theorem starts_spec_f {n : Int} {l : List Int} (g : ¬ GOk n l) : Ev (fun k => spec_WinningStarts.f k n l) [] := by
  refine Ev.bind (graph_spec_f g) ?_
  simp only [↓reduceIte, Bool.false_eq_true]; exact Ev.now _
end Go.Proofs.Ytilanbgciofkjaa.Pure
