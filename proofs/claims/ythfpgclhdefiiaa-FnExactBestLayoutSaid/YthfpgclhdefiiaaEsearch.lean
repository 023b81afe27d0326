/- The tables of the least numbers of searchers: what both programs' tables hold. -/
import Derived.Test.YthfpgclhdefiiaaEfront
import Derived.Test.YthfpgclhdefiiaaEcount
import Derived.Test.YthfpgclhdefiiaaPAx10
import Derived.Test.YthfpgclhdefiiaaPAx12
import Derived.Test.YthfpgclhdefiiaaPAx14
namespace Go.Proofs.Ythfpgclhdefiiaa.Pure
open Go.RowKit Go.Proofs.YthfpgclhdefiiaaW.PrintWords Go.Proofs.YthfpgclhdefiiaaW.PrintLast Go.Proofs.YthfpgclhdefiiaaW.PrintMore Go.Proofs.Ythfpgclhdefiiaa.PA
set_option linter.unusedVariables false
set_option linter.unusedSimpArgs false
theorem allLt (n : Nat) : 2 ^ n - 1 < 2 ^ n := by have := Nat.one_le_two_pow (n := n); omega
theorem allInt (n : Nat) : ((2 ^ n : Nat) : Int) - 1 = ((2 ^ n - 1 : Nat) : Int) := by have := Nat.one_le_two_pow (n := n); omega
theorem setD_eq (T : List Int) (i : Nat) (x : Int) (h : i < T.length) : (T.set i x).getD i 0 = x := by
  rw [List.getD_eq_getElem?_getD, List.getElem?_set_self h]; rfl
theorem setD_ne (T : List Int) (i j : Nat) (x : Int) (h : i ≠ j) : (T.set i x).getD j 0 = T.getD j 0 := by
  rw [List.getD_eq_getElem?_getD, List.getElem?_set_ne h, ← List.getD_eq_getElem?_getD]
def Tells {R : Type} (G : Nat → Option R) (P : R → Prop) : Prop := ∃ r, Ev G r ∧ P r
theorem Tells.step {R : Type} {G f : Nat → Option R} {P : R → Prop} (h : ∀ k, G (k + 1) = f k) (hq : Tells f P) : Tells G P := by
  obtain ⟨r, h1, h2⟩ := hq; exact ⟨r, Ev.step h h1, h2⟩
theorem Tells.bind {A R : Type} {f : Nat → Option A} {a : A} {h : Nat → A → Option R} {P : R → Prop} (ha : Ev f a) (hq : Tells (fun k => h k a) P) : Tells (fun k => (f k).bind (h k)) P := by
  obtain ⟨r, h1, h2⟩ := hq; exact ⟨r, Ev.bind ha h1, h2⟩
theorem Tells.now {R : Type} {r : R} {P : R → Prop} (h : P r) : Tells (fun _ => some r) P := ⟨r, Ev.now r, h⟩
/-- the searchers at the vertex behind a set -/
def costN (l : List Int) (s : Nat) : Int := ((elems (frontN l s)).length : Int) + 1
theorem costN_le (l : List Int) (s : Nat) : 1 ≤ costN l s ∧ costN l s ≤ 9 := by have := elems_len (frontN l s); unfold costN; omega
theorem searchers_impl {n : Int} {l : List Int} (g : GOk n l) (s : Nat) (v : Int) (hs : s < 2 ^ l.length) : Ev (fun k => impl_Graph_searchers.f k n l (s : Int) v) (costN l s) := by
  have hf := frontN_lt (l := l) hs
  have p8 := pow8 _ g.len8
  have hc := elems_len (frontN l s)
  refine Ev.bind (front_impl g s hs) ?_
  have e : wrap64 (1 + ((elems (frontN l s)).length : Int)) = costN l s := by unfold wrap64 costN; omega
  simp only [count_impl (frontN l s) (by omega), Option.bind_some, e]
  exact Ev.now _
/-- the least over the vertices outside s, from v on -/
def fm (H : Nat → Int) (c : Int) (s : Nat) : Nat → Nat → Int → Int
  | 0, _, a => a
  | d + 1, v, a => fm H c s d (v + 1) (if s.testBit v then a else mn a (mx c (H (s ||| 2 ^ v))))
theorem fm_t (H : Nat → Int) (c : Int) (s d v : Nat) (a : Int) (hb : s.testBit v = true) : fm H c s (d + 1) v a = fm H c s d (v + 1) a := by
  show fm H c s d (v + 1) (if s.testBit v then a else mn a (mx c (H (s ||| 2 ^ v)))) = _
  rw [hb]; rfl
theorem fm_congr (H1 H2 : Nat → Int) (c : Int) (s : Nat) : ∀ d v a, (∀ u, v ≤ u → u < v + d → s.testBit u = false → H1 (s ||| 2 ^ u) = H2 (s ||| 2 ^ u)) → fm H1 c s d v a = fm H2 c s d v a
  | 0, _, _, _ => rfl
  | d + 1, v, a, h => by
    unfold fm
    cases hb : s.testBit v with
    | true => simp only [↓reduceIte]; exact fm_congr H1 H2 c s d (v + 1) a (fun u h1 h2 => h u (by omega) (by omega))
    | false =>
      simp only [↓reduceIte, Bool.false_eq_true]
      rw [h v (by omega) (by omega) hb]
      exact fm_congr H1 H2 c s d (v + 1) _ (fun u h1 h2 => h u (by omega) (by omega))
theorem fm_cap (H : Nat → Int) (c : Int) (s : Nat) (hx : ∀ u, mx c (H (s ||| 2 ^ u)) ≤ 9) : ∀ d v, (∃ u, v ≤ u ∧ u < v + d ∧ s.testBit u = false) → fm H c s d v 9 = fm H c s d v 1000
  | 0, v, ⟨u, h1, h2, _⟩ => by omega
  | d + 1, v, ⟨u, h1, h2, h3⟩ => by
    unfold fm
    cases hb : s.testBit v with
    | true =>
      simp only [↓reduceIte]
      refine fm_cap H c s hx d (v + 1) ⟨u, ?_, by omega, h3⟩
      have : u ≠ v := fun e => by subst e; rw [hb] at h3; cases h3
      omega
    | false =>
      simp only [↓reduceIte, Bool.false_eq_true]
      have := hx v
      have e : mn 9 (mx c (H (s ||| 2 ^ v))) = mn 1000 (mx c (H (s ||| 2 ^ v))) := by
        generalize mx c (H (s ||| 2 ^ v)) = y at this ⊢
        unfold mn; split <;> split <;> omega
      rw [e]
theorem fm_le (H : Nat → Int) (c : Int) (s : Nat) : ∀ d v a, fm H c s d v a ≤ a
  | 0, _, a => Int.le_refl _
  | d + 1, v, a => by
    unfold fm
    refine Int.le_trans (fm_le H c s d (v + 1) _) ?_
    split
    · omega
    · unfold mn; split <;> omega
theorem fm_hit (H : Nat → Int) (c : Int) (s : Nat) (b : Int) : ∀ d v a, fm H c s d v a ≤ b → a ≤ b ∨ ∃ u, v ≤ u ∧ u < v + d ∧ s.testBit u = false ∧ c ≤ b ∧ H (s ||| 2 ^ u) ≤ b
  | 0, v, a, h => Or.inl h
  | d + 1, v, a, h => by
    unfold fm at h
    rcases fm_hit H c s b d (v + 1) _ h with h1 | ⟨u, h1, h2, h3⟩
    · cases hb : s.testBit v with
      | true => rw [hb] at h1; simp only [↓reduceIte] at h1; exact Or.inl h1
      | false =>
        rw [hb] at h1; simp only [↓reduceIte, Bool.false_eq_true] at h1
        by_cases ha : a ≤ b
        · exact Or.inl ha
        · refine Or.inr ⟨v, by omega, by omega, hb, ?_⟩
          unfold mn mx at h1
          split at h1 <;> split at h1 <;> omega
    · exact Or.inr ⟨u, by omega, by omega, h3⟩
theorem or_gt (s v : Nat) (hb : s.testBit v = false) : s < s ||| 2 ^ v := by
  have h1 : s ≤ s ||| 2 ^ v := Nat.left_le_or
  have h2 : s ≠ s ||| 2 ^ v := fun e => by
    have := congrArg (fun x => x.testBit v) e
    simp only [Nat.testBit_or, two_bit, hb] at this
    simp at this
  omega
theorem or_lt (l : List Int) (s v : Nat) (hs : s < 2 ^ l.length) (hv : v < l.length) : s ||| 2 ^ v < 2 ^ l.length := Nat.or_lt_two_pow hs (Nat.pow_lt_pow_right (by decide) hv)
def LocAt (l : List Int) (K : Int) (T : List Int) (s : Nat) : Prop := (s = 2 ^ l.length - 1 → T.getD s 0 = 0) ∧ (s ≠ 2 ^ l.length - 1 → T.getD s 0 = fm (fun t => T.getD t 0) (costN l s) s l.length 0 K)
/-- the table tells what it should, from q on -/
structure Loc (l : List Int) (K : Int) (q : Nat) (T : List Int) : Prop where
  len : T.length = 2 ^ l.length
  at_ : ∀ s, q ≤ s → s < 2 ^ l.length → LocAt l K T s
theorem Loc.down {l : List Int} {K : Int} {p : Nat} {T T' : List Int} (h : Loc l K (p + 1) T) (hp : p ≠ 2 ^ l.length - 1) (hl : T'.length = 2 ^ l.length) (ho : ∀ s, s < 2 ^ l.length → s ≠ p → T'.getD s 0 = T.getD s 0)
    (hat : T'.getD p 0 = fm (fun t => T.getD t 0) (costN l p) p l.length 0 K) : Loc l K p T' := by
  refine ⟨hl, fun s h1 h2 => ?_⟩
  have hcg : ∀ u, 0 ≤ u → u < 0 + l.length → s.testBit u = false → (fun t => T.getD t 0) (s ||| 2 ^ u) = (fun t => T'.getD t 0) (s ||| 2 ^ u) := fun u _ hu hb => by
    have := or_gt s u hb
    exact (ho _ (or_lt l s u h2 (by omega)) (by omega)).symm
  by_cases e : s = p
  · subst e
    exact ⟨fun e2 => absurd e2 hp, fun _ => by rw [hat]; exact fm_congr _ _ _ _ _ _ _ hcg⟩
  · have := h.at_ s (by omega) h2
    exact ⟨fun e2 => by rw [ho s h2 e]; exact this.1 e2, fun e2 => by rw [ho s h2 e, this.2 e2]; exact fm_congr _ _ _ _ _ _ _ hcg⟩
theorem stab_l1 {n : Int} {l : List Int} (g : GOk n l) {P : List Int → Prop} (p : Nat) (hp : p < 2 ^ l.length) (H : Nat → Int)
    (cont : ∀ T, T.length = 2 ^ l.length → (∀ s, s < 2 ^ l.length → s ≠ p → T.getD s 0 = H s) → T.getD p 0 = fm H (costN l p) p l.length 0 9 → Tells (fun f => spec_l09Table.l0 f T ((p : Int) - 1) n l) P) :
    ∀ d v T, v + d = l.length → T.length = 2 ^ l.length → (∀ s, s < 2 ^ l.length → s ≠ p → T.getD s 0 = H s) → fm H (costN l p) p d v (T.getD p 0) = fm H (costN l p) p l.length 0 9 →
    Tells (fun f => spec_l09Table.l1 f T (p : Int) (costN l p) (v : Int) n l) P := by
  have p8 := pow8 _ g.len8
  have hn := g.len
  have h8 := g.len8
  intro d
  induction d with
  | zero =>
    intro v T hv hl ho he
    refine Tells.step (fun f => ?_) (cont T hl ho he)
    rw [spec_l09Table.l1.eq_2, if_neg (by omega), show wrap64 ((p : Int) - 1) = (p : Int) - 1 from by unfold wrap64; omega]
  | succ d ih =>
    intro v T hv hl ho he
    cases hb : p.testBit v with
    | true =>
      refine Tells.step (fun f => ?_) (ih (v + 1) T (by omega) hl ho ((fm_t H _ _ _ _ _ hb).symm.trans he))
      rw [spec_l09Table.l1.eq_2, if_pos (by omega), has_spec p v (by omega) (by omega), Option.bind_some, hb, if_pos rfl, wsucc v (by omega)]
    | false =>
      have hlt := or_lt l p v hp (by omega)
      have hgt := or_gt p v hb
      have h2 : (2 : Nat) ^ v < 2 ^ 62 := Nat.pow_lt_pow_right (by decide) (by omega)
      refine Tells.step (fun f => ?_) (ih (v + 1) (T.set p (mn (T.getD p 0) (mx (costN l p) (T.getD (p ||| 2 ^ v) 0)))) (by omega) (by rw [List.length_set]; exact hl) (fun s h1 h2 => by rw [setD_ne _ _ _ _ (by omega)]; exact ho s h1 h2) ?_)
      · rw [spec_l09Table.l1.eq_2, if_pos (by omega), has_spec p v (by omega) (by omega), Option.bind_some, hb, if_neg (by simp), if_pos (by omega), if_pos (by omega), if_pos (by omega), sShl v (by omega), bOr _ _ (by omega) (by omega), if_pos (Int.natCast_nonneg _), if_pos (by omega), wsucc v (by omega), rd_nat, rd_nat, Int.toNat_natCast]
      · rw [setD_eq _ _ _ (by omega), ← he]
        conv => rhs; unfold fm
        rw [hb, ho _ hlt (by omega)]
        simp
theorem stab_l0 {n : Int} {l : List Int} (g : GOk n l) {P : List Int → Prop} (fin : ∀ T, Loc l 9 0 T → P T) : ∀ q T, q < 2 ^ l.length → Loc l 9 q T → Tells (fun f => spec_l09Table.l0 f T ((q : Int) - 1) n l) P
  | 0, T, hq, h => by
    refine Tells.step (f := fun _ => some T) (fun f => ?_) (Tells.now (fin T h))
    rw [spec_l09Table.l0.eq_2, if_neg (by omega)]
  | q + 1, T, hq, h => by
    have p8 := pow8 _ g.len8
    have hlen := h.len
    have hf := frontN_lt (l := l) (show q < 2 ^ l.length by omega)
    refine Tells.step (f := fun f => (spec_l09Front.f f n l (q : Int)).bind fun t => (spec_l02Count.f f t).bind fun c => spec_l09Table.l1 f (T.set q 9) (q : Int) (wrap64 (c + 1)) 0 n l) (fun f => ?_) (Tells.bind (front_spec g q (by omega)) (Tells.bind (count_spec (frontN l q) (by omega)) ?_))
    · rw [show ((q + 1 : Nat) : Int) - 1 = (q : Int) from by omega, spec_l09Table.l0.eq_2, if_pos (by omega), if_pos (by omega), if_pos (by omega), Int.toNat_natCast]
    · have hc := elems_len (frontN l q)
      rw [show wrap64 (((elems (frontN l q)).length : Int) + 1) = costN l q from by unfold wrap64 costN; omega]
      refine stab_l1 g q (by omega) (fun t => T.getD t 0) (fun T' hl' ho' he' => stab_l0 g fin q T' (by omega) (h.down (by omega) hl' ho' he')) l.length 0 (T.set q 9) (by omega) (by rw [List.length_set]; exact hlen) (fun s h1 h2 => setD_ne _ _ _ _ (by omega)) ?_
      rw [setD_eq _ _ _ (by omega)]
theorem zeros_loc (l : List Int) (K : Int) : Loc l K (2 ^ l.length - 1) (List.replicate (2 ^ l.length) 0) := by
  refine ⟨List.length_replicate, fun s h1 h2 => ⟨fun _ => ?_, fun e => by omega⟩⟩
  rw [List.getD_eq_getElem?_getD, List.getElem?_replicate, if_pos h2]; rfl
theorem stab {n : Int} {l : List Int} (g : GOk n l) : Tells (fun f => spec_l09Table.f f n l) (Loc l 9 0) := by
  have hn := g.len
  have h8 := g.len8
  have p8 := pow8 _ g.len8
  have ha := allLt l.length
  have h1 : 2 ≤ 2 ^ l.length := by have := Nat.pow_le_pow_right (n := 2) (by decide) g.len1; simpa using this
  obtain ⟨r, h1, h2⟩ := stab_l0 g (fun T h => h) (2 ^ l.length - 1) (List.replicate (2 ^ l.length) 0) ha (zeros_loc l 9)
  refine ⟨r, Ev.congr (fun k => ?_) h1, h2⟩
  unfold spec_l09Table.f
  rw [if_pos (by omega), ← hn, sShl _ (by omega), if_pos (Int.natCast_nonneg _), Int.toNat_natCast, if_pos (by omega), Option.bind_some, List.length_replicate, show wrap64 (((2 ^ l.length : Nat) : Int) - 2) = ((2 ^ l.length - 1 : Nat) : Int) - 1 from by unfold wrap64; omega]
theorem itab_l1 {n : Int} {l : List Int} (g : GOk n l) {P : Int × List Int → Prop} (p : Nat) (hp : p < 2 ^ l.length) (H : Nat → Int)
    (cont : ∀ T, T.length = 2 ^ l.length → (∀ s, s < 2 ^ l.length → s ≠ p → T.getD s 0 = H s) → T.getD p 0 = fm H (costN l p) p l.length 0 1000 → Tells (fun f => impl_Graph_bestOrder.l0 f T ((p : Int) - 1) n l n l) P) :
    ∀ d v T, v + d = l.length → T.length = 2 ^ l.length → (∀ s, s < 2 ^ l.length → s ≠ p → T.getD s 0 = H s) → fm H (costN l p) p d v (T.getD p 0) = fm H (costN l p) p l.length 0 1000 →
    Tells (fun f => impl_Graph_bestOrder.l1 f T (p : Int) n (v : Int) n l n l) P := by
  have p8 := pow8 _ g.len8
  have hn := g.len
  have h8 := g.len8
  intro d
  induction d with
  | zero =>
    intro v T hv hl ho he
    refine Tells.step (fun f => ?_) (cont T hl ho he)
    rw [impl_Graph_bestOrder.l1.eq_2, if_neg (by omega), show wrap64 ((p : Int) - 1) = (p : Int) - 1 from by unfold wrap64; omega]
  | succ d ih =>
    intro v T hv hl ho he
    cases hb : p.testBit v with
    | true =>
      refine Tells.step (fun f => ?_) (ih (v + 1) T (by omega) hl ho ((fm_t H _ _ _ _ _ hb).symm.trans he))
      rw [impl_Graph_bestOrder.l1.eq_2, if_pos (by omega), has_impl p v (by omega) (by omega), Option.bind_some, hb, if_pos rfl, wsucc v (by omega)]
    | false =>
      have hlt := or_lt l p v hp (by omega)
      have hgt := or_gt p v hb
      have h2 : (2 : Nat) ^ v < 2 ^ 62 := Nat.pow_lt_pow_right (by decide) (by omega)
      refine Tells.step (f := fun f => (impl_Graph_searchers.f f n l (p : Int) (v : Int)).bind fun c => impl_Graph_bestOrder.l1 f (T.set p (mn (T.getD p 0) (mx c (T.getD (p ||| 2 ^ v) 0)))) (p : Int) n ((v + 1 : Nat) : Int) n l n l) (fun f => ?_) (Tells.bind (searchers_impl g p v hp) (ih (v + 1) (T.set p (mn (T.getD p 0) (mx (costN l p) (T.getD (p ||| 2 ^ v) 0)))) (by omega) (by rw [List.length_set]; exact hl) (fun s h1 h2 => by rw [setD_ne _ _ _ _ (by omega)]; exact ho s h1 h2) ?_))
      · rw [impl_Graph_bestOrder.l1.eq_2, if_pos (by omega), has_impl p v (by omega) (by omega), Option.bind_some, hb, if_neg (by simp), if_pos (by omega), if_pos (by omega), bit_impl v (by omega)]
        simp only [Option.bind_some, bOr p (2 ^ v) (by omega) (by omega), show (0 : Int) ≤ ((p ||| 2 ^ v : Nat) : Int) from Int.natCast_nonneg _, show ((p ||| 2 ^ v : Nat) : Int) < (T.length : Int) from by omega, ↓reduceIte, rd_nat, Int.toNat_natCast, wsucc v (show v ≤ 4000000 by omega)]
      · rw [setD_eq _ _ _ (by omega), ← he]
        conv => rhs; unfold fm
        rw [hb, ho _ hlt (by omega)]
        simp
theorem itab_l0 {n : Int} {l : List Int} (g : GOk n l) {P : Int × List Int → Prop} (fin : ∀ T, Loc l 1000 0 T → Tells (fun f => impl_Graph_bestOrder.l2 f T [] 0 n l n l) P) : ∀ q T, q < 2 ^ l.length → Loc l 1000 q T → Tells (fun f => impl_Graph_bestOrder.l0 f T ((q : Int) - 1) n l n l) P
  | 0, T, hq, h => by
    refine Tells.step (fun f => ?_) (fin T h)
    rw [impl_Graph_bestOrder.l0.eq_2, if_neg (by omega)]
  | q + 1, T, hq, h => by
    have hlen := h.len
    refine Tells.step (f := fun f => impl_Graph_bestOrder.l1 f (T.set q 1000) (q : Int) n ((0 : Nat) : Int) n l n l) (fun f => ?_) (itab_l1 g q (by omega) (fun t => T.getD t 0) (fun T' hl' ho' he' => itab_l0 g fin q T' (by omega) (h.down (by omega) hl' ho' he')) l.length 0 (T.set q 1000) (by omega) (by rw [List.length_set]; exact hlen) (fun s h1 h2 => setD_ne _ _ _ _ (by omega)) ?_)
    · rw [show ((q + 1 : Nat) : Int) - 1 = (q : Int) from by omega, impl_Graph_bestOrder.l0.eq_2, if_pos (by omega), if_pos (by omega), if_pos (by omega), Int.toNat_natCast]
      rfl
    · rw [setD_eq _ _ _ (by omega)]
theorem itab {n : Int} {l : List Int} (g : GOk n l) {P : Int × List Int → Prop} (fin : ∀ T, Loc l 1000 0 T → Tells (fun f => impl_Graph_bestOrder.l2 f T [] 0 n l n l) P) : Tells (fun f => impl_Graph_bestOrder.f f n l n l) P := by
  have hn := g.len
  have h8 := g.len8
  have p8 := pow8 _ g.len8
  have ha := allLt l.length
  obtain ⟨r, h1, h2⟩ := itab_l0 g fin (2 ^ l.length - 1) (List.replicate (2 ^ l.length) 0) ha (zeros_loc l 1000)
  refine ⟨r, Ev.congr (fun k => ?_) h1, h2⟩
  have ew : wrap64 (((2 ^ l.length : Nat) : Int) - 1 + 1) = ((2 ^ l.length : Nat) : Int) := by unfold wrap64; omega
  have ea : impl_Graph_all.f n l = some (((2 ^ l.length : Nat) : Int) - 1) := by rw [← hn]; exact all_impl _ _ (by omega)
  unfold impl_Graph_bestOrder.f
  rw [ea, Option.bind_some, ew, if_pos (Int.natCast_nonneg _), Int.toNat_natCast, if_pos (by omega), Option.bind_some, show wrap64 (((2 ^ l.length : Nat) : Int) - 1 - 1) = ((2 ^ l.length - 1 : Nat) : Int) - 1 from by unfold wrap64; omega]
theorem not_all {l : List Int} {s : Nat} (hs : s < 2 ^ l.length) (hne : s ≠ 2 ^ l.length - 1) : ∃ u, 0 ≤ u ∧ u < 0 + l.length ∧ s.testBit u = false := by
  apply Classical.byContradiction
  intro hno
  apply hne
  apply Nat.eq_of_testBit_eq
  intro i
  rw [Nat.testBit_two_pow_sub_one]
  by_cases hi : i < l.length
  · rw [decide_eq_true hi]
    cases hb : s.testBit i with
    | true => rfl
    | false => exact absurd ⟨i, by omega, by omega, hb⟩ hno
  · rw [decide_eq_false hi]
    cases hb : s.testBit i with
    | false => rfl
    | true => exact absurd (bit_in s _ i hs hb) hi
theorem loc_same {l : List Int} {T1 T2 : List Int} (h1 : Loc l 9 0 T1) (h2 : Loc l 1000 0 T2) : ∀ d s, s + d = 2 ^ l.length → 0 < d → T1.getD s 0 = T2.getD s 0 ∧ T1.getD s 0 ≤ 9 := by
  intro d
  induction d using Nat.strongRecOn with
  | ind d ih =>
    intro s hs hd
    have a1 := h1.at_ s (Nat.zero_le _) (by omega)
    have a2 := h2.at_ s (Nat.zero_le _) (by omega)
    by_cases e : s = 2 ^ l.length - 1
    · rw [a1.1 e, a2.1 e]; exact ⟨rfl, by omega⟩
    · rw [a1.2 e, a2.2 e]
      have hin : ∀ u, 0 ≤ u → u < 0 + l.length → s.testBit u = false → T1.getD (s ||| 2 ^ u) 0 = T2.getD (s ||| 2 ^ u) 0 ∧ T1.getD (s ||| 2 ^ u) 0 ≤ 9 := fun u _ hu hb => by
        have h3 := or_gt s u hb
        have h4 := or_lt l s u (by omega) (by omega)
        exact ih (2 ^ l.length - (s ||| 2 ^ u)) (by omega) _ (by omega) (by omega)
      have hc := costN_le l s
      -- a table that is small everywhere
      have e1 : fm (fun t => T1.getD t 0) (costN l s) s l.length 0 9 = fm (fun t => mn (T1.getD t 0) 9) (costN l s) s l.length 0 9 := fm_congr _ _ _ _ _ _ _ (fun u h3 h4 h5 => by
        have := (hin u h3 h4 h5).2
        show T1.getD _ 0 = mn (T1.getD _ 0) 9
        unfold mn; split <;> omega)
      have e2 : fm (fun t => T2.getD t 0) (costN l s) s l.length 0 1000 = fm (fun t => mn (T1.getD t 0) 9) (costN l s) s l.length 0 1000 := fm_congr _ _ _ _ _ _ _ (fun u h3 h4 h5 => by
        have h6 := (hin u h3 h4 h5).2
        have h7 := (hin u h3 h4 h5).1
        show T2.getD _ 0 = mn (T1.getD _ 0) 9
        unfold mn; split <;> omega)
      refine ⟨?_, fm_le _ _ _ _ _ _⟩
      rw [e1, e2]
      refine fm_cap _ _ _ (fun u => ?_) _ _ (not_all (by omega) e)
      show mx (costN l s) (mn (T1.getD (s ||| 2 ^ u) 0) 9) ≤ 9
      generalize T1.getD (s ||| 2 ^ u) 0 = y
      unfold mx mn; split <;> split <;> omega
end Go.Proofs.Ythfpgclhdefiiaa.Pure
