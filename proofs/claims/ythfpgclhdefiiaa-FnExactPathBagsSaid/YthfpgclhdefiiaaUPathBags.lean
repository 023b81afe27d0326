/- The plain law of FnExactPathBags. -/
import Derived.Test.YthfpgclhdefiiaaVPathBags
import Derived.Test.YthfpgclhdefiiaaEfronts
namespace Go.Proofs.Ythfpgclhdefiiaa.Pure
open Go.RowKit Go.Proofs.YthfpgclhdefiiaaW.PrintWords Go.Proofs.YthfpgclhdefiiaaW.PrintLast Go.Proofs.Ythfpgclhdefiiaa.PA
set_option linter.unusedVariables false
set_option linter.unusedSimpArgs false
def bagsS (l : List Int) (st : List Int × Nat) (x : Int) : List Int × Nat := (st.1 ++ [((frontN l st.2 ||| 2 ^ x.toNat : Nat) : Int)], st.2 ||| 2 ^ x.toNat)
theorem bags_spec {n : Int} {l L : List Int} (h : LOk n l L) : Ev (fun k => spec_PathBags.l0 k [] 0 L (L.length : Int) 0 n l) (L.foldl (bagsS l) ([], 0)).1 := by
  have h8 := h.g.len8; have hn := h.g.len; have hl := h.len
  refine Ev_fold (fun k st i => spec_PathBags.l0 k st.1 (st.2 : Int) L (L.length : Int) (i : Int) n l) L (bagsS l) (fun i st => st.1.length = i ∧ st.2 = setN (L.take i)) (fun st => st.1) (fun st i hi hv => ?_) (fun st hv => ?_) L.length 0 ([], 0) (by omega) ⟨rfl, by simp [setN, orOver]⟩
  · obtain ⟨v, hv1, hv2⟩ := nat_of _ _ (h.vs _ (getD_mem L i hi))
    have hs' : st.2 ||| 2 ^ v = setN (L.take (i + 1)) := by rw [take_snoc L i hi, setN_snoc, hv.2, hv1, Int.toNat_natCast]
    have hlt := setN_take_lt h (i + 1)
    have hlt0 := setN_take_lt h i
    rw [← hs'] at hlt
    rw [← hv.2] at hlt0
    have p8 := pow8 _ h8
    have h2 : (2 : Nat) ^ v < 2 ^ 62 := Nat.pow_lt_pow_right (by decide) (by omega)
    refine ⟨⟨by simp [bagsS, hv.1], by show st.2 ||| 2 ^ (L.getD i 0).toNat = _; rw [hv1, Int.toNat_natCast, hs']⟩, fun r hr => ?_⟩
    refine Ev.step (f := fun k => (spec_l09Front.f k n l (st.2 : Int)).bind fun t => if 0 ≤ (v : Int) then if st.1.length < 17592186044416 then spec_PathBags.l0 k (st.1 ++ [Go.bits .or .i64 t (shl .i64 1 (v : Int))]) ((st.2 ||| 2 ^ v : Nat) : Int) L (L.length : Int) ((i + 1 : Nat) : Int) n l else none else none) (fun k => ?_) (Ev.bind (front_spec h.g _ hlt0) ?_)
    · show spec_PathBags.l0 (k + 1) _ _ _ _ _ _ _ = _
      rw [spec_PathBags.l0.eq_2, if_pos (by omega), if_pos (by omega), if_pos (by omega), rd_nat, hv1]
      simp only [sShl v (show v < 62 by omega), bOr st.2 (2 ^ v) (by omega) (by omega), wsucc i (by omega)]
    · have hc : st.1.length < 17592186044416 := by omega
      have hf := frontN_lt (l := l) hlt0
      simp only [hc, ↓reduceIte, sShl v (show v < 62 by omega), bOr (frontN l st.2) (2 ^ v) (by omega) (by omega), show (0 : Int) ≤ (v : Int) from by omega]
      unfold bagsS at hr
      rw [hv1, Int.toNat_natCast] at hr
      exact hr
  · refine Ev.here (fun k => ?_)
    show spec_PathBags.l0 (k + 1) _ _ _ _ _ _ _ = _
    rw [spec_PathBags.l0.eq_2, if_neg (by omega)]
theorem bags_impl {n : Int} {l L : List Int} (h : LOk n l L) : Ev (fun k => impl_PathBags.l0 k [] 0 L (L.length : Int) 0 n l) (L.foldl (bagsS l) ([], 0)).1 := by
  have h8 := h.g.len8; have hn := h.g.len; have hl := h.len
  refine Ev_fold (fun k st i => impl_PathBags.l0 k st.1 (st.2 : Int) L (L.length : Int) (i : Int) n l) L (bagsS l) (fun i st => st.1.length = i ∧ st.2 = setN (L.take i)) (fun st => st.1) (fun st i hi hv => ?_) (fun st hv => ?_) L.length 0 ([], 0) (by omega) ⟨rfl, by simp [setN, orOver]⟩
  · obtain ⟨v, hv1, hv2⟩ := nat_of _ _ (h.vs _ (getD_mem L i hi))
    have hs' : st.2 ||| 2 ^ v = setN (L.take (i + 1)) := by rw [take_snoc L i hi, setN_snoc, hv.2, hv1, Int.toNat_natCast]
    have hlt := setN_take_lt h (i + 1)
    have hlt0 := setN_take_lt h i
    rw [← hs'] at hlt
    rw [← hv.2] at hlt0
    have p8 := pow8 _ h8
    have h2 : (2 : Nat) ^ v < 2 ^ 62 := Nat.pow_lt_pow_right (by decide) (by omega)
    refine ⟨⟨by simp [bagsS, hv.1], by show st.2 ||| 2 ^ (L.getD i 0).toNat = _; rw [hv1, Int.toNat_natCast, hs']⟩, fun r hr => ?_⟩
    refine Ev.step (f := fun k => (impl_Graph_front.f k n l (st.2 : Int)).bind fun t => if st.1.length < 17592186044416 then impl_PathBags.l0 k (st.1 ++ [Go.bits .or .i64 t ((2 ^ v : Nat) : Int)]) ((st.2 ||| 2 ^ v : Nat) : Int) L (L.length : Int) ((i + 1 : Nat) : Int) n l else none) (fun k => ?_) (Ev.bind (front_impl h.g _ hlt0) ?_)
    · show impl_PathBags.l0 (k + 1) _ _ _ _ _ _ _ = _
      rw [impl_PathBags.l0.eq_2, if_pos (by omega), if_pos (by omega), if_pos (by omega), rd_nat, hv1, bit_impl v (by omega)]
      simp only [Option.bind_some, bOr st.2 (2 ^ v) (by omega) (by omega), wsucc i (by omega)]
    · have hc : st.1.length < 17592186044416 := by omega
      have hf := frontN_lt (l := l) hlt0
      simp only [hc, ↓reduceIte, bOr (frontN l st.2) (2 ^ v) (by omega) (by omega)]
      unfold bagsS at hr
      rw [hv1, Int.toNat_natCast] at hr
      exact hr
  · refine Ev.here (fun k => ?_)
    show impl_PathBags.l0 (k + 1) _ _ _ _ _ _ _ = _
    rw [impl_PathBags.l0.eq_2, if_neg (by omega)]
open Classical in
theorem PathBags_holds : PathBags := by
  intro n l L _ _ _ hlen
  have hL : L.length ≤ 1000000 := by omega
  by_cases h : LOk n l L
  · have hs := layout_spec n l L hL
    have hi := layout_impl n l L hL
    rw [decide_eq_true h] at hs hi
    obtain ⟨ks, h1⟩ := Ev.bind (f := fun k t => if t = true then spec_PathBags.l0 k [] 0 L (L.length : Int) 0 n l else some []) hs (by simp only [↓reduceIte]; exact bags_spec h)
    obtain ⟨ki, h2⟩ := Ev.bind (f := fun k t => if t = true then impl_PathBags.l0 k [] 0 L (L.length : Int) 0 n l else some []) hi (by simp only [↓reduceIte]; exact bags_impl h)
    exact ⟨ks, ki, _, h1 ks (Nat.le_refl _), h2 ki (Nat.le_refl _), by rw [foldl_len _ (fun st x => by simp [bagsS])]; simp; omega⟩
  · have hs := layout_spec n l L hL
    have hi := layout_impl n l L hL
    rw [decide_eq_false h] at hs hi
    obtain ⟨ks, h1⟩ := Ev.bind (f := fun k t => if t = true then spec_PathBags.l0 k [] 0 L (L.length : Int) 0 n l else some []) hs (by simp only [↓reduceIte, Bool.false_eq_true]; exact Ev.now _)
    obtain ⟨ki, h2⟩ := Ev.bind (f := fun k t => if t = true then impl_PathBags.l0 k [] 0 L (L.length : Int) 0 n l else some []) hi (by simp only [↓reduceIte, Bool.false_eq_true]; exact Ev.now _)
    exact ⟨ks, ki, _, h1 ks (Nat.le_refl _), h2 ki (Nat.le_refl _), by simp⟩
end Go.Proofs.Ythfpgclhdefiiaa.Pure
