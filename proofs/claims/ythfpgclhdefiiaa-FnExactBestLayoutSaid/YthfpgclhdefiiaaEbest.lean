/- The best order: both programs walk down their tables. -/
import Derived.Test.YthfpgclhdefiiaaEsearch
import Derived.Test.YthfpgclhdefiiaaPAx14
import Derived.Test.YthfpgclhdefiiaaPAx16
namespace Go.Proofs.Ythfpgclhdefiiaa.Pure
open Go.RowKit Go.Proofs.YthfpgclhdefiiaaW.PrintWords Go.Proofs.YthfpgclhdefiiaaW.PrintLast Go.Proofs.YthfpgclhdefiiaaW.PrintMore Go.Proofs.Ythfpgclhdefiiaa.PA
set_option linter.unusedVariables false
set_option linter.unusedSimpArgs false
theorem len_add : ∀ s, s < 256 → ∀ v, v < 8 → s.testBit v = false → (elems (s ||| 2 ^ v)).length = (elems s).length + 1 := by decide +kernel
theorem len_all : ∀ m, m < 9 → ∀ s, s < 2 ^ m → ((elems s).length ≤ m ∧ ((elems s).length = m → s = 2 ^ m - 1) ∧ (s = 2 ^ m - 1 → (elems s).length = m)) := by decide +kernel
theorem best_spec_l1 {n : Int} {l : List Int} (g : GOk n l) {T : List Int} (hT : T.length = 2 ^ l.length) (o : List Int) (ho : o.length ≤ 1000) (s : Nat) (hs : s < 2 ^ l.length) (u : Nat) (hu : u < l.length) (hb : s.testBit u = false) (hle : T.getD (s ||| 2 ^ u) 0 ≤ T.getD 0 0)
    (hlow : ∀ v, v < u → s.testBit v = false → ¬ T.getD (s ||| 2 ^ v) 0 ≤ T.getD 0 0) (r : List Int × Bool)
    (hr : Ev (fun f => spec_BestLayout.l0 f T (o ++ [(u : Int)]) ((s ||| 2 ^ u : Nat) : Int) n l) r) : ∀ d v, v + d = u → Ev (fun f => spec_BestLayout.l1 f T o (s : Int) (v : Int) n l) r := by
  have p8 := pow8 _ g.len8
  have hn := g.len
  have h8 := g.len8
  intro d
  induction d with
  | zero =>
    intro v hv
    obtain rfl : v = u := by omega
    have hlt := or_lt l s v hs hu
    have h2 : (2 : Nat) ^ v < 2 ^ 62 := Nat.pow_lt_pow_right (by decide) (by omega)
    have e0 : rd T 0 = T.getD 0 0 := rfl
    refine Ev.step (fun f => ?_) hr
    rw [spec_BestLayout.l1.eq_2, if_pos (by omega), has_spec s v (by omega) (by omega), Option.bind_some, hb, if_neg (by simp), if_pos (by omega), sShl v (by omega), bOr _ _ (by omega) (by omega), if_pos (Int.natCast_nonneg _), if_pos (by omega), if_pos (by omega), rd_nat, e0, if_pos hle, if_pos (by omega)]
  | succ d ih =>
    intro v hv
    cases hbv : s.testBit v with
    | true =>
      refine Ev.step (fun f => ?_) (ih (v + 1) (by omega))
      rw [spec_BestLayout.l1.eq_2, if_pos (by omega), has_spec s v (by omega) (by omega), Option.bind_some, hbv, if_pos rfl, wsucc v (by omega)]
    | false =>
      have hlt := or_lt l s v hs (by omega)
      have h2 : (2 : Nat) ^ v < 2 ^ 62 := Nat.pow_lt_pow_right (by decide) (by omega)
      have e0 : rd T 0 = T.getD 0 0 := rfl
      refine Ev.step (fun f => ?_) (ih (v + 1) (by omega))
      rw [spec_BestLayout.l1.eq_2, if_pos (by omega), has_spec s v (by omega) (by omega), Option.bind_some, hbv, if_neg (by simp), if_pos (by omega), sShl v (by omega), bOr _ _ (by omega) (by omega), if_pos (Int.natCast_nonneg _), if_pos (by omega), if_pos (by omega), rd_nat, e0, if_neg (hlow v (by omega) hbv), wsucc v (by omega)]
theorem best_impl_l3 {n : Int} {l : List Int} (g : GOk n l) {T : List Int} (hT : T.length = 2 ^ l.length) (o : List Int) (ho : o.length ≤ 1000) (s : Nat) (hs : s < 2 ^ l.length) (hc : costN l s ≤ T.getD 0 0) (u : Nat) (hu : u < l.length) (hb : s.testBit u = false) (hle : T.getD (s ||| 2 ^ u) 0 ≤ T.getD 0 0)
    (hlow : ∀ v, v < u → s.testBit v = false → ¬ T.getD (s ||| 2 ^ v) 0 ≤ T.getD 0 0) (r : Int × List Int)
    (hr : Ev (fun f => impl_Graph_bestOrder.l2 f T (o ++ [(u : Int)]) ((s ||| 2 ^ u : Nat) : Int) n l n l) r) : ∀ d v, v + d = u → Ev (fun f => impl_Graph_bestOrder.l3 f T o (s : Int) n (v : Int) n l n l) r := by
  have p8 := pow8 _ g.len8
  have hn := g.len
  have h8 := g.len8
  intro d
  induction d with
  | zero =>
    intro v hv
    obtain rfl : v = u := by omega
    have hlt := or_lt l s v hs hu
    have h2 : (2 : Nat) ^ v < 2 ^ 62 := Nat.pow_lt_pow_right (by decide) (by omega)
    have e0 : rd T 0 = T.getD 0 0 := rfl
    refine Ev.step (f := fun f => (impl_Graph_searchers.f f n l (s : Int) (v : Int)).bind fun c => if c ≤ T.getD 0 0 then impl_Graph_bestOrder.l2 f T (o ++ [(v : Int)]) ((s ||| 2 ^ v : Nat) : Int) n l n l else impl_Graph_bestOrder.l3 f T o (s : Int) n ((v + 1 : Nat) : Int) n l n l) (fun f => ?_) (Ev.bind (searchers_impl g s v hs) ?_)
    · rw [impl_Graph_bestOrder.l3.eq_2, if_pos (by omega), has_impl s v (by omega) (by omega), Option.bind_some, hb, if_neg (by simp), bit_impl v (by omega)]
      simp only [Option.bind_some, bOr s (2 ^ v) (by omega) (by omega), show (0 : Int) ≤ ((s ||| 2 ^ v : Nat) : Int) from Int.natCast_nonneg _, show ((s ||| 2 ^ v : Nat) : Int) < (T.length : Int) from by omega, show (0 : Int) < (T.length : Int) from by omega, ↓reduceIte, rd_nat, e0, hle, show o.length < 17592186044416 from by omega, wsucc v (show v ≤ 4000000 by omega)]
    · simp only [hc, ↓reduceIte]; exact hr
  | succ d ih =>
    intro v hv
    cases hbv : s.testBit v with
    | true =>
      refine Ev.step (fun f => ?_) (ih (v + 1) (by omega))
      rw [impl_Graph_bestOrder.l3.eq_2, if_pos (by omega), has_impl s v (by omega) (by omega), Option.bind_some, hbv, if_pos rfl, wsucc v (by omega)]
    | false =>
      have hlt := or_lt l s v hs (by omega)
      have h2 : (2 : Nat) ^ v < 2 ^ 62 := Nat.pow_lt_pow_right (by decide) (by omega)
      have e0 : rd T 0 = T.getD 0 0 := rfl
      have hno := hlow v (by omega) hbv
      refine Ev.step (f := fun f => (impl_Graph_searchers.f f n l (s : Int) (v : Int)).bind fun c => if c ≤ T.getD 0 0 then impl_Graph_bestOrder.l3 f T o (s : Int) n ((v + 1 : Nat) : Int) n l n l else impl_Graph_bestOrder.l3 f T o (s : Int) n ((v + 1 : Nat) : Int) n l n l) (fun f => ?_) (Ev.bind (searchers_impl g s v hs) ?_)
      · rw [impl_Graph_bestOrder.l3.eq_2, if_pos (by omega), has_impl s v (by omega) (by omega), Option.bind_some, hbv, if_neg (by simp), bit_impl v (by omega)]
        simp only [Option.bind_some, bOr s (2 ^ v) (by omega) (by omega), show (0 : Int) ≤ ((s ||| 2 ^ v : Nat) : Int) from Int.natCast_nonneg _, show ((s ||| 2 ^ v : Nat) : Int) < (T.length : Int) from by omega, show (0 : Int) < (T.length : Int) from by omega, ↓reduceIte, rd_nat, e0, hno, wsucc v (show v ≤ 4000000 by omega)]
      · simp only [hc, ↓reduceIte]; exact ih (v + 1) (by omega)
theorem best_both {n : Int} {l : List Int} (g : GOk n l) {T1 T2 : List Int} (h1 : Loc l 9 0 T1) (h2 : Loc l 1000 0 T2) : ∀ d s o, (elems s).length + d = l.length → s < 2 ^ l.length → o.length = (elems s).length → T1.getD s 0 ≤ T1.getD 0 0 →
    ∃ r : List Int, r.length ≤ 1000 ∧ Ev (fun f => spec_BestLayout.l0 f T1 o (s : Int) n l) (r, true) ∧ Ev (fun f => impl_Graph_bestOrder.l2 f T2 o (s : Int) n l n l) (T1.getD 0 0, r) := by
  have p8 := pow8 _ g.len8
  have hn := g.len
  have h8 := g.len8
  have hp := Nat.two_pow_pos l.length
  have ha := allLt l.length
  have ea : impl_Graph_all.f n l = some ((2 ^ l.length - 1 : Nat) : Int) := by rw [← hn, all_impl _ _ (by omega), allInt]
  have same : ∀ s, s < 2 ^ l.length → T1.getD s 0 = T2.getD s 0 := fun s hs => (loc_same h1 h2 (2 ^ l.length - s) s (by omega) (by omega)).1
  have h9 : T1.getD 0 0 ≤ 9 := (loc_same h1 h2 (2 ^ l.length) 0 (by omega) hp).2
  have e0 : rd T2 0 = T1.getD 0 0 := (same 0 hp).symm
  have hl2 := h2.len
  intro d
  induction d with
  | zero =>
    intro s o hd hs ho hle
    have hsa := (len_all l.length (by omega) s hs).2.1 (by omega)
    refine ⟨o, by omega, Ev.here (fun f => ?_), Ev.here (fun f => ?_)⟩
    · rw [spec_BestLayout.l0.eq_2, if_neg (by omega)]
    · rw [impl_Graph_bestOrder.l2.eq_2, ea, Option.bind_some, if_pos (by omega), if_pos (by omega), e0]
  | succ d ih =>
    intro s o hd hs ho hle
    have hsa : s ≠ 2 ^ l.length - 1 := fun e => by have := (len_all l.length (by omega) s hs).2.2 e; omega
    have hat := (h2.at_ s (Nat.zero_le _) hs).2 hsa
    rw [same s hs] at hle
    rw [hat] at hle
    rcases fm_hit _ _ _ _ _ _ _ hle with h | ⟨u0, hu1, hu2, hu3, hc, hu4⟩
    · omega
    · have hex : ∃ u, u < l.length ∧ s.testBit u = false ∧ T1.getD (s ||| 2 ^ u) 0 ≤ T1.getD 0 0 ∧ ∀ v, v < u → s.testBit v = false → ¬ T1.getD (s ||| 2 ^ v) 0 ≤ T1.getD 0 0 := by
        have hu4' : T1.getD (s ||| 2 ^ u0) 0 ≤ T1.getD 0 0 := by rw [same _ (or_lt l s u0 hs (by omega))]; exact hu4
        have hul : u0 < l.length := by omega
        clear hu1 hu2 hu4
        induction u0 using Nat.strongRecOn with
        | ind u0 ih2 =>
          by_cases hj : ∃ v, v < u0 ∧ s.testBit v = false ∧ T1.getD (s ||| 2 ^ v) 0 ≤ T1.getD 0 0
          · obtain ⟨v, hv, hvb, hvl⟩ := hj
            exact ih2 v hv hvb hvl (by omega)
          · exact ⟨u0, hul, hu3, hu4', fun v hv hvb hvl => hj ⟨v, hv, hvb, hvl⟩⟩
      obtain ⟨u, hu, hub, hule, hlow⟩ := hex
      have hlt := or_lt l s u hs hu
      have hla := len_add s (by omega) u (by omega) hub
      obtain ⟨r, hr, r1, r2⟩ := ih (s ||| 2 ^ u) (o ++ [(u : Int)]) (by omega) hlt (by rw [List.length_append, hla, ho]; rfl) hule
      have hol : o.length ≤ 1000 := by omega
      refine ⟨r, hr, ?_, ?_⟩
      · refine Ev.step (fun f => ?_) (best_spec_l1 g h1.len o hol s hs u hu hub hule hlow _ r1 u 0 (by omega))
        rw [spec_BestLayout.l0.eq_2, if_pos (by omega)]
        rfl
      · refine Ev.step (fun f => ?_) (best_impl_l3 g hl2 o hol s hs (by rw [← same 0 hp]; exact hc) u hu hub (by rw [← same _ hlt, ← same 0 hp]; exact hule) (fun v hv hvb => by rw [← same _ (or_lt l s v hs (by omega)), ← same 0 hp]; exact hlow v hv hvb) _ r2 u 0 (by omega))
        rw [impl_Graph_bestOrder.l2.eq_2, ea, Option.bind_some, if_neg (by omega)]
        rfl
/-- both programs' least number and order -/
theorem best_all {n : Int} {l : List Int} (g : GOk n l) : ∃ (T : List Int) (r : List Int), T.length = 2 ^ l.length ∧ r.length ≤ 1000 ∧ Ev (fun f => spec_l09Table.f f n l) T ∧ Ev (fun f => spec_BestLayout.l0 f T [] 0 n l) (r, true) ∧ Ev (fun f => impl_Graph_bestOrder.f f n l n l) (T.getD 0 0, r) := by
  obtain ⟨T1, t1, h1⟩ := stab g
  have hp := Nat.two_pow_pos l.length
  have e0 : (elems 0).length = 0 := by decide
  obtain ⟨q, q1, q2⟩ := itab (P := fun q => ∃ r : List Int, r.length ≤ 1000 ∧ q = (T1.getD 0 0, r) ∧ Ev (fun f => spec_BestLayout.l0 f T1 [] 0 n l) (r, true)) g (fun T2 h2 => by
    obtain ⟨r, hr, r1, r2⟩ := best_both g h1 h2 l.length 0 [] (by omega) hp (by rw [e0]; rfl) (Int.le_refl _)
    exact ⟨_, r2, r, hr, rfl, r1⟩)
  obtain ⟨r, hr, rfl, r1⟩ := q2
  exact ⟨T1, r, h1.len, hr, t1, r1, q1⟩
end Go.Proofs.Ythfpgclhdefiiaa.Pure
