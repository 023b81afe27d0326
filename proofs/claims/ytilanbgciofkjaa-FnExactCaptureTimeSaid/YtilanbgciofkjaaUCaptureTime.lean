/- The plain law of CaptureTime. -/
import Derived.Test.YtilanbgciofkjaaVCaptureTime
import Derived.Test.YtilanbgciofkjaaEfar
import Derived.Test.YtilanbgciofkjaaPAx16
import Derived.Test.YtilanbgciofkjaaTstarts
namespace Go.Proofs.Ytilanbgciofkjaa.Pure
open Go.RowKit Go.Proofs.YtilanbgciofkjaaW.PrintWords Go.Proofs.YtilanbgciofkjaaW.PrintLast Go.Proofs.Ytilanbgciofkjaa.PA
set_option linter.unusedVariables false
set_option linter.unusedSimpArgs false
/-- the least of the numbers, from i on -/
def bestF (l : List Int) (n : Nat) (b x : Int) : Int := if b < 0 then farV l n x.toNat else if farV l n x.toNat < b then farV l n x.toNat else b
theorem best_le (l : List Int) (n : Nat) (k : Int) : ∀ (L : List Int) (b : Int), (∀ x ∈ L, 0 ≤ farV l n x.toNat) → ((0 ≤ L.foldl (bestF l n) b ∧ L.foldl (bestF l n) b ≤ k) ↔ ((0 ≤ b ∧ b ≤ k) ∨ ∃ x ∈ L, farV l n x.toNat ≤ k))
  | [], b, _ => by simp
  | x :: L, b, hx => by
    have h0 := hx x List.mem_cons_self
    rw [List.foldl_cons, best_le l n k L _ (fun y hy => hx y (List.mem_cons_of_mem _ hy))]
    have e : (0 ≤ bestF l n b x ∧ bestF l n b x ≤ k) ↔ ((0 ≤ b ∧ b ≤ k) ∨ farV l n x.toNat ≤ k) := by
      unfold bestF
      split
      · omega
      · split <;> omega
    rw [e]
    simp only [List.mem_cons, exists_eq_or_imp, or_assoc]
theorem best_ge (l : List Int) (n : Nat) : ∀ (L : List Int) (b : Int), -1 ≤ b → b ≤ 1000 → (∀ x ∈ L, -1 ≤ farV l n x.toNat ∧ farV l n x.toNat ≤ 1000) → -1 ≤ L.foldl (bestF l n) b ∧ L.foldl (bestF l n) b ≤ 1000
  | [], b, h0, h1, _ => ⟨h0, h1⟩
  | x :: L, b, h0, h1, hx => by
    have h2 := hx x List.mem_cons_self
    rw [List.foldl_cons]
    exact best_ge l n L _ (by unfold bestF; split; omega; split <;> omega) (by unfold bestF; split; omega; split <;> omega) (fun y hy => hx y (List.mem_cons_of_mem _ hy))
theorem capt_l0 {n : Nat} {l : List Int} (g : GOk (n : Int) l) (L : List Int) (hL : L.length ≤ 8) (hLv : ∀ y ∈ L, ∃ u : Nat, y = (u : Int) ∧ u < n) : ∀ (d i : Nat) (b : Int), i + d = L.length → Ev (fun k => spec_CaptureTime.l0 k b L (L.length : Int) (i : Int) (n : Int) l) ((L.drop i).foldl (bestF l n) b)
  | 0, i, b, hi => by
    obtain rfl : i = L.length := by omega
    rw [List.drop_length]
    refine Ev.step (fun k => ?_) (Ev.now _)
    rw [spec_CaptureTime.l0.eq_2, if_neg (by omega)]; rfl
  | d + 1, i, b, hi => by
    obtain ⟨u, hu, hun⟩ := hLv _ (getD_mem L i (by omega))
    obtain ⟨T, hT, hE⟩ := table_spec g
    have ih := capt_l0 g L hL hLv d (i + 1) (bestF l n b (u : Int)) (by omega)
    rw [drop_cons L i (by omega), List.foldl_cons, hu]
    refine Ev.step (fun k => ?_) (Ev.bind hE (f := fun k t263 => (spec_l05Far.f k (n : Int) l t263 (u : Int)).bind fun t266 => (if b < 0 then (spec_CaptureTime.l0 k t266 L (L.length : Int) (wrap64 ((i : Int) + 1)) (n : Int) l) else (if t266 < b then (spec_CaptureTime.l0 k t266 L (L.length : Int) (wrap64 ((i : Int) + 1)) (n : Int) l) else (spec_CaptureTime.l0 k b L (L.length : Int) (wrap64 ((i : Int) + 1)) (n : Int) l)))) (Ev.bind (far_spec g hT u hun) ?_))
    · rw [spec_CaptureTime.l0.eq_2, if_pos (by omega), if_pos (by omega), if_pos (by omega), rd_nat, hu]
    · unfold bestF at ih ⊢
      rw [Int.toNat_natCast] at ih ⊢
      rw [wsucc i (by omega)]
      by_cases c1 : b < 0
      · simp only [c1, ↓reduceIte] at ih ⊢
        exact ih
      · by_cases c2 : farV l n u < b
        · simp only [c1, c2, ↓reduceIte] at ih ⊢
          exact ih
        · simp only [c1, c2, ↓reduceIte] at ih ⊢
          exact ih
theorem farV_le {n : Nat} {l : List Int} (g : GOk (n : Int) l) {T : List Int} (hT : STab n l T) (p : Nat) (hp : p < n) (k : Nat) (hk : k < 1000) : (0 ≤ farV l n p ∧ farV l n p ≤ (k : Int)) ↔ ∀ f, f < n → win l k p f = true := by
  unfold farV
  rw [farL_le l n p k n 0 0 (by omega)]
  constructor
  · intro h f hf
    rw [← hT.tab p f hp hf k hk, hT.dist g p f hp hf]
    exact h.2 f (Nat.zero_le _) (by omega)
  · intro h
    refine ⟨by omega, fun f _ hf => ?_⟩
    rw [← hT.dist g p f hp (by omega)]
    exact (hT.tab p f hp (by omega) k hk).2 (h f (by omega))
theorem farV_in {n : Nat} {l : List Int} (g : GOk (n : Int) l) {T : List Int} (hT : STab n l T) (p : Nat) (hp : p < n) : -1 ≤ farV l n p ∧ farV l n p ≤ 900 := by
  have h1 := far_ge l n p n 0 0 (by omega)
  refine ⟨h1, ?_⟩
  by_cases c : 0 ≤ farV l n p
  · have h8 := g.len8
    have e := nlen g
    have h2 := farL_le l n p (max (farV l n p) 900) n 0 0 (by omega)
    have h3 := (h2.1 ⟨c, by unfold farV; omega⟩).2
    have h4 := farL_le l n p 900 n 0 0 (by omega)
    refine (h4.2 ⟨by omega, fun j h5 h6 => ⟨(h3 j h5 h6).1, ?_⟩⟩).2
    rw [← hT.dist g p j hp (by omega)]
    exact (hT.ins.2 (8 * p + j) (by omega)).2
  · omega
theorem capt_spec_t {n : Nat} {l : List Int} (g : GOk (n : Int) l) : Ev (fun k => spec_CaptureTime.f k (n : Int) l) (captV l n) := by
  have h8 := g.len8
  have e := nlen g
  obtain ⟨T, hT, _⟩ := table_spec g
  have hv : ∀ y ∈ startsV l n, ∃ u : Nat, y = (u : Int) ∧ u < n := fun y hy => by
    obtain ⟨j, h1, _, h2⟩ := (numsOf_mem _ _ _).1 hy
    exact ⟨j, h2, h1⟩
  have hlen : (startsV l n).length ≤ 8 := by have := numsOf_len (winsFrom l n) n; unfold startsV; omega
  have hpos : ∀ x ∈ startsV l n, 0 ≤ farV l n x.toNat := fun x hx => by
    obtain ⟨j, h1, h2, rfl⟩ := (numsOf_mem _ _ _).1 hx
    rw [Int.toNat_natCast]
    rw [← far_wins] at h2
    exact of_decide_eq_true h2
  have hb : (startsV l n).foldl (bestF l n) (-1) = captV l n := by
    have hge := best_ge l n (startsV l n) (-1) (by omega) (by omega) (fun x hx => by obtain ⟨u, rfl, hu⟩ := hv x hx; rw [Int.toNat_natCast]; have := farV_in g hT u hu; omega)
    have hle := best_le l n
    have h999 : (startsV l n).foldl (bestF l n) (-1) < 1000 := by
      by_cases c : 0 ≤ (startsV l n).foldl (bestF l n) (-1)
      · rcases (hle ((startsV l n).foldl (bestF l n) (-1)) (startsV l n) (-1) hpos).1 ⟨c, by omega⟩ with h | ⟨x, hx, h⟩
        · omega
        · obtain ⟨u, rfl, hu⟩ := hv x hx
          rw [Int.toNat_natCast] at h
          have hi := farV_in g hT u hu
          have h2 := (hle (farV l n u) (startsV l n) (-1) hpos).2 (.inr ⟨(u : Int), hx, by rw [Int.toNat_natCast]; omega⟩)
          omega
      · omega
    refine leastK_of hge.1 h999 (fun k hk => ?_)
    rw [hle k (startsV l n) (-1) hpos]
    unfold winAll
    rw [List.any_eq_true]
    constructor
    · rintro (h | ⟨x, hx, h⟩)
      · omega
      · obtain ⟨u, rfl, hu⟩ := hv x hx
        have h0 := hpos _ hx
        rw [Int.toNat_natCast] at h h0
        exact ⟨u, List.mem_range.2 hu, List.all_eq_true.2 (fun f hf => (farV_le g hT u hu k hk).1 ⟨h0, h⟩ f (List.mem_range.1 hf))⟩
    · rintro ⟨p, hp, h⟩
      have hp' := List.mem_range.1 hp
      have h2 := (farV_le g hT p hp' k hk).2 (fun f hf => List.all_eq_true.1 h f (List.mem_range.2 hf))
      refine .inr ⟨(p : Int), (numsOf_mem _ _ _).2 ⟨p, hp', ?_, rfl⟩, by rw [Int.toNat_natCast]; exact h2.2⟩
      rw [← far_wins]; exact decide_eq_true h2.1
  have h := capt_l0 g (startsV l n) hlen hv (startsV l n).length 0 (-1) (by omega)
  rw [List.drop_zero, hb] at h
  exact Ev.bind (starts_spec_t g) h
theorem capt_spec_f {n : Int} {l : List Int} (g : ¬ GOk n l) : Ev (fun k => spec_CaptureTime.f k n l) (-1) := by
  refine Ev.bind (starts_spec_f g) (Ev.step (f := fun _ => some (-1)) (fun k => ?_) (Ev.now _))
  show spec_CaptureTime.l0 (k + 1) _ _ _ _ _ _ = _
  rw [spec_CaptureTime.l0.eq_2, if_neg (by simp)]
theorem CaptureTime_holds : CaptureTime := by
  intro n l _ _ _
  by_cases g : GOk n l
  · obtain ⟨n, rfl⟩ : ∃ m : Nat, n = (m : Int) := ⟨n.toNat, by have := g.lo; omega⟩
    refine both_ev (capt_spec_t g) (Ev.bind (graph_impl_t g) ?_)
    simp only [↓reduceIte, Int.toNat_natCast]; exact Ev.now _
  · refine both_ev (capt_spec_f g) (Ev.bind (graph_impl_f g) ?_)
    simp only [↓reduceIte, Bool.false_eq_true]; exact Ev.now _
end Go.Proofs.Ytilanbgciofkjaa.Pure
