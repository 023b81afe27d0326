/- The plain law of SearchersFor. -/
import Derived.Test.YthfpgclhdefiiaaVSearchersFor
import Derived.Test.YthfpgclhdefiiaaEfronts
import Derived.Test.YthfpgclhdefiiaaEcount
import Derived.Test.YthfpgclhdefiiaaPAx12
import Derived.Test.YthfpgclhdefiiaaPAx13
import Derived.Test.YthfpgclhdefiiaaPAx5
import Derived.Test.YthfpgclhdefiiaaPAx6
namespace Go.Proofs.Ythfpgclhdefiiaa.Pure
open Go.RowKit Go.Proofs.YthfpgclhdefiiaaW.PrintWords Go.Proofs.YthfpgclhdefiiaaW.PrintLast Go.Proofs.YthfpgclhdefiiaaW.PrintMore Go.Proofs.Ythfpgclhdefiiaa.PA
set_option linter.unusedVariables false
set_option linter.unusedSimpArgs false
def bagsS (l : List Int) (st : List Int × Nat) (x : Int) : List Int × Nat := (st.1 ++ [((frontN l st.2 ||| 2 ^ x.toNat : Nat) : Int)], st.2 ||| 2 ^ x.toNat)
theorem bags_spec {n : Int} {l L : List Int} (h : LOk n l L) : Ev (fun k => spec_PathBags.l0 k [] 0 L (L.length : Int) 0 n l) (L.foldl (bagsS l) ([], 0)).1 := by
  have h8 := h.g.len8; have hn := h.g.len; have hl := h.len
  refine Ev_fold (fun k st i => spec_PathBags.l0 k st.1 (st.2 : Int) L (L.length : Int) (i : Int) n l) L (bagsS l) (fun i st => st.1.length = i ∧ st.2 = setN (L.take i)) (fun st => st.1) (fun st i hi hv => ?_) (fun st hv => ?_) L.length 0 ([], 0) (by omega) ⟨rfl, by simp [setN, orOver]⟩
  · obtain ⟨v, hv1, hv2⟩ := nat_of _ _ (h.vs _ (getD_mem L i hi))
    have hs' : st.2 ||| 2 ^ v = setN (L.take (i + 1)) := by rw [take_snoc L i hi, setN_snoc, hv.2, hv1, Int.toNat_natCast]
    have hlt := setN_take_lt h (i + 1)
    have hlt0 := setN_take_lt h i
    rw [← hs'] at hlt
    rw [← hv.2] at hlt0
    have p8 := pow8 _ h8
    have h2 : (2 : Nat) ^ v < 2 ^ 62 := Nat.pow_lt_pow_right (by decide) (by omega)
    refine ⟨⟨by simp [bagsS, hv.1], by show st.2 ||| 2 ^ (L.getD i 0).toNat = _; rw [hv1, Int.toNat_natCast, hs']⟩, fun r hr => ?_⟩
    refine Ev.step (f := fun k => (spec_l09Front.f k n l (st.2 : Int)).bind fun t => if 0 ≤ (v : Int) then if st.1.length < 17592186044416 then spec_PathBags.l0 k (st.1 ++ [Go.bits .or .i64 t (shl .i64 1 (v : Int))]) ((st.2 ||| 2 ^ v : Nat) : Int) L (L.length : Int) ((i + 1 : Nat) : Int) n l else none else none) (fun k => ?_) (Ev.bind (front_spec h.g _ hlt0) ?_)
    · show spec_PathBags.l0 (k + 1) _ _ _ _ _ _ _ = _
      rw [spec_PathBags.l0.eq_2, if_pos (by omega), if_pos (by omega), if_pos (by omega), rd_nat, hv1]
      simp only [sShl v (show v < 62 by omega), bOr st.2 (2 ^ v) (by omega) (by omega), wsucc i (by omega)]
    · have hc : st.1.length < 17592186044416 := by omega
      have hf := frontN_lt (l := l) hlt0
      simp only [hc, ↓reduceIte, sShl v (show v < 62 by omega), bOr (frontN l st.2) (2 ^ v) (by omega) (by omega), show (0 : Int) ≤ (v : Int) from by omega]
      unfold bagsS at hr
      rw [hv1, Int.toNat_natCast] at hr
      exact hr
  · refine Ev.here (fun k => ?_)
    show spec_PathBags.l0 (k + 1) _ _ _ _ _ _ _ = _
    rw [spec_PathBags.l0.eq_2, if_neg (by omega)]
def cnt (s : Nat) : Int := ((elems s).length : Int)
def costN (l : List Int) (s : Nat) : Int := cnt (frontN l s) + 1
theorem searchers_impl {n : Int} {l : List Int} (g : GOk n l) (s : Nat) (v : Int) (hs : s < 2 ^ l.length) : Ev (fun k => impl_Graph_searchers.f k n l (s : Int) v) (costN l s) := by
  have hf := frontN_lt (l := l) hs
  have p8 := pow8 _ g.len8
  have hc := elems_len (frontN l s)
  refine Ev.bind (front_impl g s hs) ?_
  have e : wrap64 (1 + ((elems (frontN l s)).length : Int)) = costN l s := by unfold wrap64 costN cnt; omega
  simp only [count_impl (frontN l s) (by omega), Option.bind_some, e]
  exact Ev.now _
theorem front_sub (l : List Int) (s v : Nat) (h : (frontN l s).testBit v = true) : s.testBit v = true := by
  unfold frontN at h
  rw [orOver_bit, Nat.zero_testBit, Bool.false_or, List.any_eq_true] at h
  obtain ⟨x, hx, hb⟩ := h
  obtain ⟨u, rfl, _, hu⟩ := (mem_elems s x).1 hx
  unfold frontF at hb
  split at hb
  · rw [Nat.zero_testBit] at hb; cases hb
  · rw [Int.toNat_natCast, two_bit, decide_eq_true_eq] at hb
    subst hb; exact hu
theorem cnt_add : ∀ s, s < 256 → ∀ v, v < 8 → s.testBit v = false → (elems (s ||| 2 ^ v)).length = (elems s).length + 1 := by decide +kernel
/-- the bags, one after the other -/
def bagsL (l : List Int) : List Int → Nat → List Int
  | [], _ => []
  | x :: L, s => ((frontN l s ||| 2 ^ x.toNat : Nat) : Int) :: bagsL l L (s ||| 2 ^ x.toNat)
theorem bags_are (l : List Int) : ∀ (L : List Int) (o : List Int) (s : Nat), (L.foldl (bagsS l) (o, s)).1 = o ++ bagsL l L s
  | [], o, s => by simp [bagsL]
  | x :: L, o, s => by
    rw [List.foldl_cons]
    unfold bagsL
    have := bags_are l L (o ++ [((frontN l s ||| 2 ^ x.toNat : Nat) : Int)]) (s ||| 2 ^ x.toNat)
    rw [List.append_assoc] at this
    exact this
def mostS (l : List Int) (st : Int × Nat) (x : Int) : Int × Nat := (mx st.1 (costN l st.2), st.2 ||| 2 ^ x.toNat)
theorem most_same (l : List Int) (h8 : l.length ≤ 8) : ∀ (L : List Int) (s : Nat) (a : Int), s < 2 ^ l.length → (∀ x ∈ L, 0 ≤ x ∧ x < (l.length : Int) ∧ s.testBit x.toNat = false) → L.Nodup →
    (bagsL l L s).foldl (fun a b => mx a (cnt b.toNat)) a = (L.foldl (mostS l) (a, s)).1
  | [], s, a, _, _, _ => rfl
  | x :: L, s, a, hs, hx, hn => by
    have p8 := pow8 _ h8
    have h0 := hx x List.mem_cons_self
    rw [List.nodup_cons] at hn
    have hf := frontN_lt (l := l) hs
    have hb : (frontN l s).testBit x.toNat = false := by
      cases e : (frontN l s).testBit x.toNat with
      | false => rfl
      | true => have := front_sub l s _ e; rw [h0.2.2] at this; cases this
    have hc : cnt (frontN l s ||| 2 ^ x.toNat) = costN l s := by
      unfold costN cnt; rw [cnt_add _ (by omega) _ (by omega) hb]; omega
    unfold bagsL
    rw [List.foldl_cons, List.foldl_cons, Int.toNat_natCast, hc]
    refine most_same l h8 L _ _ (Nat.or_lt_two_pow hs (Nat.pow_lt_pow_right (by decide) (by omega))) (fun y hy => ?_) hn.2
    have h1 := hx y (List.mem_cons_of_mem _ hy)
    refine ⟨h1.1, h1.2.1, ?_⟩
    rw [Nat.testBit_or, h1.2.2, two_bit, Bool.false_or, decide_eq_false_iff_not]
    intro e
    have hxy : x = y := by omega
    subst hxy; exact hn.1 hy
theorem bagsL_lt (l : List Int) (h8 : l.length ≤ 8) : ∀ (L : List Int) (s : Nat), s < 2 ^ l.length → (∀ x ∈ L, 0 ≤ x ∧ x < (l.length : Int)) → ∀ b ∈ bagsL l L s, ∃ t : Nat, b = (t : Int) ∧ t < 256
  | [], _, _, _, b, hb => by unfold bagsL at hb; cases hb
  | x :: L, s, hs, hx, b, hb => by
    have p8 := pow8 _ h8
    have h0 := hx x List.mem_cons_self
    have h2 : 2 ^ x.toNat < 2 ^ l.length := Nat.pow_lt_pow_right (by decide) (by omega)
    unfold bagsL at hb
    rcases List.mem_cons.1 hb with e | e
    · exact ⟨_, e, by have := Nat.or_lt_two_pow (frontN_lt (l := l) hs) h2; omega⟩
    · exact bagsL_lt l h8 L _ (Nat.or_lt_two_pow hs h2) (fun y hy => hx y (List.mem_cons_of_mem _ hy)) b e
theorem bagsL_len (l : List Int) : ∀ (L : List Int) (s : Nat), (bagsL l L s).length = L.length
  | [], _ => rfl
  | x :: L, s => by unfold bagsL; rw [List.length_cons, bagsL_len l L, List.length_cons]
theorem most_spec (B : List Int) (hl : B.length ≤ 1000) (hB : ∀ b ∈ B, ∃ t : Nat, b = (t : Int) ∧ t < 256) : Ev (fun k => spec_SearchersFor.l0 k (-1) B (B.length : Int) 0) (B.foldl (fun a b => mx a (cnt b.toNat)) (-1)) := by
  refine Ev_fold (fun k (a : Int) i => spec_SearchersFor.l0 k a B (B.length : Int) (i : Int)) B (fun a b => mx a (cnt b.toNat)) (fun _ _ => True) (fun a => a) (fun a i hi _ => ⟨trivial, fun r hr => ?_⟩) (fun a _ => ?_) B.length 0 (-1) (by omega) trivial
  · obtain ⟨t, ht, ht8⟩ := hB _ (getD_mem B i hi)
    rw [ht, Int.toNat_natCast] at hr
    refine Ev.step (f := fun k => (spec_l02Count.f k (t : Int)).bind fun c => spec_SearchersFor.l0 k (mx a c) B (B.length : Int) ((i + 1 : Nat) : Int)) (fun k => ?_) (Ev.bind (count_spec t ht8) hr)
    rw [spec_SearchersFor.l0.eq_2, if_pos (by omega), if_pos (by omega), if_pos (by omega), rd_nat, ht, wsucc i (by omega)]
  · refine Ev.here (fun k => ?_)
    rw [spec_SearchersFor.l0.eq_2, if_neg (by omega)]
theorem most_impl {n : Int} {l L : List Int} (h : LOk n l L) : Ev (fun k => impl_greatest.f k L n l) (L.foldl (mostS l) (0, 0)).1 := by
  have h8 := h.g.len8; have hn := h.g.len; have hl := h.len
  have p8 := pow8 _ h8
  refine Ev_fold (fun k st i => impl_greatest.l0 k st.1 (st.2 : Int) L (L.length : Int) (i : Int) n l) L (mostS l) (fun i st => st.2 = setN (L.take i)) (fun st => st.1) (fun st i hi hv => ?_) (fun st hv => ?_) L.length 0 (0, 0) (by omega) (by simp [setN, orOver])
  · obtain ⟨v, hv1, hv2⟩ := nat_of _ _ (h.vs _ (getD_mem L i hi))
    have hs' : st.2 ||| 2 ^ v = setN (L.take (i + 1)) := by rw [take_snoc L i hi, setN_snoc, hv, hv1, Int.toNat_natCast]
    have hlt0 := setN_take_lt h i
    rw [← hv] at hlt0
    have h2 : (2 : Nat) ^ v < 2 ^ 62 := Nat.pow_lt_pow_right (by decide) (by omega)
    refine ⟨by show st.2 ||| 2 ^ (L.getD i 0).toNat = _; rw [hv1, Int.toNat_natCast, hs'], fun r hr => ?_⟩
    unfold mostS at hr
    rw [hv1, Int.toNat_natCast] at hr
    refine Ev.step (f := fun k => (impl_Graph_searchers.f k n l (st.2 : Int) (v : Int)).bind fun c => impl_greatest.l0 k (mx st.1 c) ((st.2 ||| 2 ^ v : Nat) : Int) L (L.length : Int) ((i + 1 : Nat) : Int) n l) (fun k => ?_) (Ev.bind (searchers_impl h.g st.2 v hlt0) hr)
    show impl_greatest.l0 (k + 1) _ _ _ _ _ _ _ = _
    rw [impl_greatest.l0.eq_2, if_pos (by omega), if_pos (by omega), if_pos (by omega), rd_nat, hv1, bit_impl v (by omega)]
    simp only [Option.bind_some, bOr st.2 (2 ^ v) (by omega) (by omega), wsucc i (by omega)]
  · refine Ev.here (fun k => ?_)
    show impl_greatest.l0 (k + 1) _ _ _ _ _ _ _ = _
    rw [impl_greatest.l0.eq_2, if_neg (by omega)]
open Classical in
theorem SearchersFor_holds : SearchersFor := by
  intro n l L _ _ _ hlen
  have hL : L.length ≤ 1000000 := by omega
  have hs := layout_spec n l L hL
  have hi := layout_impl n l L hL
  by_cases h : LOk n l L
  · rw [decide_eq_true h] at hs hi
    have h8 := h.g.len8; have hn := h.g.len; have hl := h.len; have h1 := h.g.len1
    have hb : Ev (fun k => spec_PathBags.f k n l L) (bagsL l L 0) := by
      refine Ev.bind (f := fun k t => if t = true then spec_PathBags.l0 k [] 0 L (L.length : Int) 0 n l else some []) hs ?_
      simp only [↓reduceIte]
      have := bags_spec h
      rw [bags_are, List.nil_append] at this
      exact this
    have hv : ∀ x ∈ L, 0 ≤ x ∧ x < (l.length : Int) := fun x hx => by have := h.vs x hx; omega
    have hlt := bagsL_lt l h8 L 0 (Nat.two_pow_pos _) hv
    have hm := most_spec (bagsL l L 0) (by rw [bagsL_len]; omega) hlt
    have e : (bagsL l L 0).foldl (fun a b => mx a (cnt b.toNat)) (-1) = (L.foldl (mostS l) (0, 0)).1 := by
      rw [most_same l h8 L 0 (-1) (Nat.two_pow_pos _) (fun x hx => ⟨(hv x hx).1, (hv x hx).2, Nat.zero_testBit _⟩) h.nd]
      cases L with
      | nil => simp only [List.length_nil] at hl; omega
      | cons x L =>
        rw [List.foldl_cons, List.foldl_cons]
        congr 2
        unfold mostS costN cnt mx
        simp only [Prod.mk.injEq, and_true]
        split <;> split <;> omega
    rw [e] at hm
    refine both_ev (r := (L.foldl (mostS l) (0, 0)).1) (Ev.bind hb hm) ?_
    refine Ev.bind hi ?_
    simp only [↓reduceIte]
    exact Ev.bind (most_impl h) (Ev.now _)
  · rw [decide_eq_false h] at hs hi
    have hb : Ev (fun k => spec_PathBags.f k n l L) [] := by
      refine Ev.bind (f := fun k t => if t = true then spec_PathBags.l0 k [] 0 L (L.length : Int) 0 n l else some []) hs ?_
      simp only [↓reduceIte, Bool.false_eq_true]; exact Ev.now _
    refine both_ev (r := -1) (Ev.bind hb (most_spec [] (by simp) (by simp))) ?_
    refine Ev.bind hi ?_
    simp only [↓reduceIte, Bool.false_eq_true]
    exact Ev.now _
end Go.Proofs.Ythfpgclhdefiiaa.Pure
