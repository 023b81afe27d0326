/- Sets: lists of a set, unions over a list, what both programs make of them. -/
import Derived.Test.YtilanbgciofkjaaC
import Derived.Test.YtilanbgciofkjaaPAx10
import Derived.Test.YtilanbgciofkjaaPAx3
import Derived.Test.YtilanbgciofkjaaPAx9
namespace Go.Proofs.Ytilanbgciofkjaa.Pure
open Go.RowKit Go.Proofs.YtilanbgciofkjaaW.PrintWords Go.Proofs.YtilanbgciofkjaaW.PrintLast Go.Proofs.Ytilanbgciofkjaa.PA
set_option linter.unusedVariables false
set_option linter.unusedSimpArgs false

/-- the union of f over a list, onto a set -/
def orOver (L : List Int) (f : Int → Nat) (o : Nat) : Nat := L.foldl (fun o x => o ||| f x) o
theorem orOver_bit (f : Int → Nat) (i : Nat) : ∀ (L : List Int) (o : Nat), (orOver L f o).testBit i = (o.testBit i || L.any fun x => (f x).testBit i)
  | [], o => by simp [orOver]
  | x :: L, o => by
    have ih := orOver_bit f i L (o ||| f x)
    unfold orOver at ih ⊢
    rw [List.foldl_cons, ih, Nat.testBit_or, List.any_cons, Bool.or_assoc]
theorem orOver_lt (f : Int → Nat) (m : Nat) : ∀ (L : List Int) (o : Nat), o < 2 ^ m → (∀ x ∈ L, f x < 2 ^ m) → orOver L f o < 2 ^ m
  | [], o, h, _ => h
  | x :: L, o, h, hf => by
    unfold orOver
    rw [List.foldl_cons]
    exact orOver_lt f m L _ (Nat.or_lt_two_pow h (hf x List.mem_cons_self)) (fun y hy => hf y (List.mem_cons_of_mem _ hy))
theorem orOver_congr (f g : Int → Nat) : ∀ (L : List Int) (o : Nat), (∀ x ∈ L, f x = g x) → orOver L f o = orOver L g o
  | [], _, _ => rfl
  | x :: L, o, h => by
    unfold orOver
    rw [List.foldl_cons, List.foldl_cons, h x List.mem_cons_self]
    exact orOver_congr f g L _ (fun y hy => h y (List.mem_cons_of_mem _ hy))
theorem drop_cons (L : List Int) (i : Nat) (h : i < L.length) : L.drop i = L.getD i 0 :: L.drop (i + 1) := by
  rw [List.drop_eq_getElem_cons h]; congr 1; simp [List.getD_eq_getElem?_getD, List.getElem?_eq_getElem h]
theorem getD_mem (L : List Int) (i : Nat) (h : i < L.length) : L.getD i 0 ∈ L := by
  simp [List.getD_eq_getElem?_getD, List.getElem?_eq_getElem h]
theorem Ev_or (G : Nat → Nat → Nat → Option Int) (L : List Int) (f : Int → Nat) (hf : ∀ x ∈ L, f x < 2 ^ 62)
    (hs : ∀ out i k, i < L.length → out < 2 ^ 62 → G (k + 1) out i = G k (out ||| f (L.getD i 0)) (i + 1)) (he : ∀ out k, out < 2 ^ 62 → G (k + 1) out L.length = some (out : Int)) :
    ∀ d i out, i + d = L.length → out < 2 ^ 62 → Ev (fun k => G k out i) ((orOver (L.drop i) f out : Nat) : Int)
  | 0, i, out, hi, ho => by
    obtain rfl : i = L.length := by omega
    rw [List.drop_length]
    exact Ev.step (fun k => he out k ho) (Ev.now _)
  | d + 1, i, out, hi, ho => by
    have hx := hf _ (getD_mem L i (by omega))
    have ih := Ev_or G L f hf hs he d (i + 1) (out ||| f (L.getD i 0)) (by omega) (Nat.or_lt_two_pow ho hx)
    rw [drop_cons L i (by omega)]
    exact Ev.step (fun k => hs out i k (by omega) ho) ih
/-- a loop that goes on while p holds, and answers b0 where it does not -/
theorem Ev_all {R : Type} (G : Nat → Nat → Option R) (n : Nat) (p : Nat → Bool) (b0 b1 b : R)
    (hs : ∀ i k, i < n → (∀ j, j < i → p j = true) → p i = true → G (k + 1) i = G k (i + 1)) (hx : ∀ i k, i < n → (∀ j, j < i → p j = true) → p i = false → G (k + 1) i = some b0)
    (he : (∀ j, j < n → p j = true) → Ev (fun k => G k n) b) (hb : ¬ (∀ j, j < n → p j = true) → b = b0) :
    ∀ d i, i + d = n → (∀ j, j < i → p j = true) → Ev (fun k => G k i) b
  | 0, i, hi, hj => by
    obtain rfl : i = n := by omega
    exact he hj
  | d + 1, i, hi, hj => by
    cases hp : p i with
    | true => exact Ev.step (fun k => hs i k (by omega) hj hp) (Ev_all G n p b0 b1 b hs hx he hb d (i + 1) (by omega) (fun j h => if e : j = i then e ▸ hp else hj j (by omega)))
    | false =>
      rw [hb (fun h => by rw [h i (by omega)] at hp; cases hp)]
      exact Ev.step (fun k => hx i k (by omega) hj hp) (Ev.now _)

/-- a loop over a list that carries a state; what one round does may take rounds of its own -/
theorem Ev_fold {S R : Type} (G : Nat → S → Nat → Option R) (L : List Int) (step : S → Int → S) (Inv : Nat → S → Prop) (fin : S → R)
    (hs : ∀ st i, i < L.length → Inv i st → Inv (i + 1) (step st (L.getD i 0)) ∧ (∀ r, Ev (fun k => G k (step st (L.getD i 0)) (i + 1)) r → Ev (fun k => G k st i) r))
    (he : ∀ st, Inv L.length st → Ev (fun k => G k st L.length) (fin st)) : ∀ d i st, i + d = L.length → Inv i st → Ev (fun k => G k st i) (fin ((L.drop i).foldl step st))
  | 0, i, st, hi, hv => by
    obtain rfl : i = L.length := by omega
    rw [List.drop_length]
    exact he st hv
  | d + 1, i, st, hi, hv => by
    have h := hs st i (by omega) hv
    rw [drop_cons L i (by omega), List.foldl_cons]
    exact h.2 _ (Ev_fold G L step Inv fin hs he d (i + 1) _ (by omega) h.1)
theorem Ev.here {R : Type} {g : Nat → Option R} {r : R} (h : ∀ k, g (k + 1) = some r) : Ev g r := Ev.step h (Ev.now r)
theorem Ev.always {R : Type} {g : Nat → Option R} {r : R} (h : ∀ k, g k = some r) : Ev g r := ⟨0, fun k _ => h k⟩

theorem list_spec_l0 (s : Nat) (hs : s < 2 ^ 62) : ∀ (d i : Nat) (acc : List Int), i + d = 8 → acc.length ≤ 100 + i → Ev (fun k => spec_l02List.l0 k (s : Int) acc (i : Int)) (acc ++ elemsFrom s d i)
  | 0, i, acc, hi, ha => by
    refine Ev.step (fun k => ?_) (Ev.now _)
    rw [spec_l02List.l0.eq_2, if_neg (by omega)]; simp [elemsFrom]
  | d + 1, i, acc, hi, ha => by
    unfold elemsFrom
    cases hb : s.testBit i with
    | true =>
      refine Ev.step (fun k => ?_) (by have := list_spec_l0 s hs d (i + 1) (acc ++ [(i : Int)]) (by omega) (by simp; omega); rw [List.append_assoc] at this; exact this)
      rw [spec_l02List.l0.eq_2, if_pos (by omega), has_spec s i (by omega) (by omega), Option.bind_some, hb, if_pos rfl, if_pos (by omega), wsucc i (by omega)]
    | false =>
      refine Ev.step (fun k => ?_) (list_spec_l0 s hs d (i + 1) acc (by omega) (by omega))
      rw [spec_l02List.l0.eq_2, if_pos (by omega), has_spec s i (by omega) (by omega), Option.bind_some, hb, if_neg (by simp), wsucc i (by omega)]
theorem list_spec (s : Nat) (hs : s < 2 ^ 62) : Ev (fun k => spec_l02List.f k (s : Int)) (elems s) := by
  have := list_spec_l0 s hs 8 0 [] (by omega) (by simp)
  rw [List.nil_append] at this
  exact this
theorem list_impl_l0 (s : Nat) (hs : s < 2 ^ 62) : ∀ (d i : Nat) (acc : List Int), i + d = 8 → acc.length ≤ 100 + i → Ev (fun k => impl_ListSet.l0 k (s : Int) acc (i : Int)) (acc ++ elemsFrom s d i)
  | 0, i, acc, hi, ha => by
    refine Ev.step (fun k => ?_) (Ev.now _)
    rw [impl_ListSet.l0.eq_2, if_neg (by omega)]; simp [elemsFrom]
  | d + 1, i, acc, hi, ha => by
    unfold elemsFrom
    cases hb : s.testBit i with
    | true =>
      refine Ev.step (fun k => ?_) (by have := list_impl_l0 s hs d (i + 1) (acc ++ [(i : Int)]) (by omega) (by simp; omega); rw [List.append_assoc] at this; exact this)
      rw [impl_ListSet.l0.eq_2, if_pos (by omega), has_impl s i (by omega) (by omega), Option.bind_some, hb, if_pos rfl, if_pos (by omega), wsucc i (by omega)]
    | false =>
      refine Ev.step (fun k => ?_) (list_impl_l0 s hs d (i + 1) acc (by omega) (by omega))
      rw [impl_ListSet.l0.eq_2, if_pos (by omega), has_impl s i (by omega) (by omega), Option.bind_some, hb, if_neg (by simp), wsucc i (by omega)]
theorem list_impl (s : Nat) (hs : s < 256) : Ev (fun k => impl_ListSet.f k (s : Int)) (elems s) := by
  have h := list_impl_l0 s (by omega) 8 0 [] (by omega) (by simp)
  rw [List.nil_append] at h
  refine ⟨h.choose, fun k hk => ?_⟩
  have h2 := h.choose_spec k hk
  show impl_ListSet.f k (s : Int) = _
  unfold impl_ListSet.f impl_isSet.f
  rw [in_impl, Option.bind_some, Option.bind_some, decide_eq_true (by omega), if_pos rfl]
  exact h2
/-- all of a list are vertices -/
def verts (n : Int) (L : List Int) : Bool := L.all fun v => decide (0 ≤ v ∧ v < n)
theorem vert_spec (n : Int) (l : List Int) (v : Int) : spec_l02Vertex.f n l v = some (decide (0 ≤ v ∧ v < n)) := by
  unfold spec_l02Vertex.f
  by_cases h : v ≥ 0
  · rw [if_pos h]; congr 1; rw [Bool.eq_iff_iff]; simp; omega
  · rw [if_neg h]; congr 1; rw [Bool.eq_iff_iff]; simp; omega
theorem vert_impl (n : Int) (l L : List Int) (h1 : 1 ≤ n) (h2 : n ≤ 8) : impl_Graph_isVertex.f n l L = some (verts n L) := by
  unfold impl_Graph_isVertex.f verts
  congr 1
  have e : wrap64 (n - 1) = n - 1 := by unfold wrap64; omega
  rw [List.not_any_eq_all_not]
  congr 1
  funext v
  unfold isVerP
  rw [e, Bool.not_not, Bool.eq_iff_iff]
  simp; omega
theorem pow_cast (n : Nat) : ((2 ^ n : Nat) : Int) = (2 : Int) ^ n := by simp
/-- a number that is a set of a valid graph -/
theorem set_nat {n : Int} {l : List Int} (g : GOk n l) (a : Int) (h0 : 0 ≤ a) (h1 : a < 2 ^ l.length) : ∃ s : Nat, a = (s : Int) ∧ s < 2 ^ l.length ∧ s < 256 := by
  have p8 := pow8 _ g.len8
  rw [← pow_cast] at h1
  exact ⟨a.toNat, by omega, by omega, by omega⟩
theorem elems_vert {l : List Int} {s : Nat} (hs : s < 2 ^ l.length) (x : Int) (hx : x ∈ elems s) : ∃ v : Nat, x = (v : Int) ∧ v < l.length ∧ s.testBit v = true := by
  obtain ⟨v, rfl, _, hb⟩ := (mem_elems s x).1 hx
  exact ⟨v, rfl, bit_in s _ v hs hb, hb⟩
end Go.Proofs.Ytilanbgciofkjaa.Pure
