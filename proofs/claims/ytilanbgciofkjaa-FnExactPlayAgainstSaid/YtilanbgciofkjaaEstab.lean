/- The reference's table of the numbers of moves. -/
import Derived.Test.YtilanbgciofkjaaMb
import Derived.Test.YtilanbgciofkjaaPAx3
import Derived.Test.YtilanbgciofkjaaPAx4
import Derived.Test.YtilanbgciofkjaaPAx5
import Derived.Test.YtilanbgciofkjaaPAx6
namespace Go.Proofs.Ytilanbgciofkjaa.Pure
open Go.RowKit Go.Proofs.YtilanbgciofkjaaW.PrintWords Go.Proofs.YtilanbgciofkjaaW.PrintLast Go.Proofs.Ytilanbgciofkjaa.PA
set_option linter.unusedVariables false
set_option linter.unusedSimpArgs false
theorem at_wrap (p f : Nat) (hp : p < 8) (hf : f < 8) : wrap64 (wrap64 ((p : Int) * 8) + (f : Int)) = ((8 * p + f : Nat) : Int) := by
  have e : wrap64 ((p : Int) * 8) = (p : Int) * 8 := by unfold wrap64; omega
  rw [e]; unfold wrap64; omega
theorem steps_spec {n : Int} {l : List Int} (g : GOk n l) (v : Nat) (hv : v < l.length) : Ev (fun k => spec_l05Steps.f k n l (v : Int)) (stayL l v) := by
  have h8 := g.len8
  have hrl := g.row_lt8 v hv
  have h2v : (2 : Nat) ^ v < 2 ^ 62 := Nat.pow_lt_pow_right (by decide) (by omega)
  have h := list_spec (stayN l v) (by have := stayN_lt8 g v hv; omega)
  refine Ev.congr (fun k => ?_) (Ev.bind h (Ev.now _))
  show spec_l05Steps.f k n l (v : Int) = _
  unfold spec_l05Steps.f
  rw [if_pos (by omega), if_pos (by omega), rd_nat, g.row_eq v hv, sShl v (by omega), bOr _ _ (by omega) (by omega)]
  rfl
/-- numbers in range: -1 for never -/
def InB (b : Int) (T : List Int) : Prop := T.length = 64 ∧ ∀ i, i < 64 → -1 ≤ T.getD i 0 ∧ T.getD i 0 ≤ b
def InS (T : List Int) : Prop := InB 900 T
theorem InB.mono {b c : Int} {T : List Int} (h : InB b T) (hc : b ≤ c) : InB c T := ⟨h.1, fun i hi => by have := h.2 i hi; omega⟩
/-- the worst of the fugitive's moves -/
def worstL (T : List Int) (x : Nat) : List Int → Int → Int
  | [], m => m
  | y :: ys, m => if T.getD (8 * x + y.toNat) 0 < 0 then -1 else worstL T x ys (mx m (T.getD (8 * x + y.toNat) 0))
def worstV (l T : List Int) (x f : Nat) : Int := if x = f then 0 else worstL T x (stayL l f) 0
theorem worstL_in {b : Int} {T : List Int} (hT : InB b T) (x : Nat) (hx : x < 8) : ∀ (L : List Int) (m : Int), (∀ y ∈ L, y.toNat < 8) → 0 ≤ m → m ≤ b → -1 ≤ worstL T x L m ∧ worstL T x L m ≤ b
  | [], m, _, h0, h1 => by unfold worstL; omega
  | y :: L, m, hy, h0, h1 => by
    have ht := hT.2 (8 * x + y.toNat) (by have := hy y List.mem_cons_self; omega)
    unfold worstL
    split
    · omega
    · exact worstL_in hT x hx L _ (fun z hz => hy z (List.mem_cons_of_mem _ hz)) (by unfold mx; split <;> omega) (by unfold mx; split <;> omega)
theorem worstL_le (T : List Int) (x : Nat) (k : Int) : ∀ (L : List Int) (m : Int), 0 ≤ m → ((0 ≤ worstL T x L m ∧ worstL T x L m ≤ k) ↔ (m ≤ k ∧ ∀ y ∈ L, 0 ≤ T.getD (8 * x + y.toNat) 0 ∧ T.getD (8 * x + y.toNat) 0 ≤ k))
  | [], m, h0 => by simp [worstL]; omega
  | y :: L, m, h0 => by
    unfold worstL
    by_cases h : T.getD (8 * x + y.toNat) 0 < 0
    · rw [if_pos h]
      constructor
      · intro h2; omega
      · intro h2; have := (h2.2 y List.mem_cons_self).1; omega
    · rw [if_neg h, worstL_le T x k L _ (by unfold mx; split <;> omega)]
      have e : mx m (T.getD (8 * x + y.toNat) 0) ≤ k ↔ m ≤ k ∧ T.getD (8 * x + y.toNat) 0 ≤ k := by unfold mx; split <;> omega
      rw [e, List.forall_mem_cons]
      constructor
      · rintro ⟨⟨h1, h2⟩, h3⟩; exact ⟨h1, ⟨by omega, h2⟩, h3⟩
      · rintro ⟨h1, ⟨_, h2⟩, h3⟩; exact ⟨⟨h1, h2⟩, h3⟩
theorem worst_l0 {n : Int} {l : List Int} (T : List Int) (hT : InS T) (x f : Nat) (hx : x < 8) (L : List Int) (hL : L.length ≤ 8) (hLv : ∀ y ∈ L, ∃ u : Nat, y = (u : Int) ∧ u < 8) :
    ∀ (d i : Nat) (m : Int), i + d = L.length → Ev (fun k => spec_l05Worst.l0 k T (x : Int) m L (L.length : Int) (i : Int)) (worstL T x (L.drop i) m)
  | 0, i, m, hi => by
    obtain rfl : i = L.length := by omega
    rw [List.drop_length]
    refine Ev.step (fun k => ?_) (Ev.now _)
    rw [spec_l05Worst.l0.eq_2, if_neg (by omega)]; rfl
  | d + 1, i, m, hi => by
    obtain ⟨u, hu, hu8⟩ := hLv _ (getD_mem L i (by omega))
    have hlen := hT.1
    rw [drop_cons L i (by omega)]
    unfold worstL
    rw [hu, Int.toNat_natCast]
    by_cases h : T.getD (8 * x + u) 0 < 0
    · rw [if_pos h]
      refine Ev.step (fun k => ?_) (Ev.now _)
      rw [spec_l05Worst.l0.eq_2, if_pos (by omega), if_pos (by omega), if_pos (by omega), rd_nat, hu, at_wrap x u hx hu8, if_pos (by omega), if_pos (by omega), rd_nat, if_pos h]
    · rw [if_neg h]
      refine Ev.step (fun k => ?_) (worst_l0 (n := n) (l := l) T hT x f hx L hL hLv d (i + 1) _ (by omega))
      rw [spec_l05Worst.l0.eq_2, if_pos (by omega), if_pos (by omega), if_pos (by omega), rd_nat, hu, at_wrap x u hx hu8, if_pos (by omega), if_pos (by omega), rd_nat, if_neg h, wsucc i (by omega)]
theorem worst_spec {n : Int} {l : List Int} (g : GOk n l) (T : List Int) (hT : InS T) (x f : Nat) (hx : x < l.length) (hf : f < l.length) : Ev (fun k => spec_l05Worst.f k n l T (x : Int) (f : Int)) (worstV l T x f) := by
  have h8 := g.len8
  unfold worstV
  by_cases h : x = f
  · rw [if_pos h]
    refine Ev.always (fun k => ?_)
    unfold spec_l05Worst.f
    rw [if_pos (by omega)]
  · rw [if_neg h]
    have hw := worst_l0 (n := n) (l := l) T hT x f (by omega) (stayL l f) (stayL_len l f) (fun y hy => by obtain ⟨u, e, hu, _⟩ := stayL_mem g f hf y hy; exact ⟨u, e, by omega⟩) (stayL l f).length 0 0 (by omega)
    refine Ev.congr (fun k => ?_) (Ev.bind (f := fun k t128 => spec_l05Worst.l0 k T (x : Int) 0 t128 (t128.length : Int) 0) (steps_spec g f hf) hw)
    show spec_l05Worst.f k n l T (x : Int) (f : Int) = _
    unfold spec_l05Worst.f
    rw [if_neg (by omega)]
theorem worstV_in {b : Int} {n : Int} {l : List Int} (g : GOk n l) {T : List Int} (hb : 0 ≤ b) (hT : InB b T) (x f : Nat) (hx : x < l.length) (hf : f < l.length) : -1 ≤ worstV l T x f ∧ worstV l T x f ≤ b := by
  have h8 := g.len8
  unfold worstV
  split
  · omega
  · exact worstL_in hT x (by omega) _ 0 (fun y hy => by obtain ⟨u, rfl, hu, _⟩ := stayL_mem g f hf y hy; rw [Int.toNat_natCast]; omega) (by omega) (by omega)

/-- a candidate for the next table's number -/
def stepN (l T : List Int) (f : Nat) (s : Int × Bool) (x : Int) : Int × Bool := if worstV l T x.toNat f ≥ 0 ∧ (s.1 < 0 ∨ worstV l T x.toNat f + 1 < s.1) then (worstV l T x.toNat f + 1, true) else s
theorem stepN_le (l T : List Int) (f : Nat) (k : Int) : ∀ (L : List Int) (s : Int × Bool), ((0 ≤ (L.foldl (stepN l T f) s).1 ∧ (L.foldl (stepN l T f) s).1 ≤ k) ↔ ((0 ≤ s.1 ∧ s.1 ≤ k) ∨ ∃ x ∈ L, 0 ≤ worstV l T x.toNat f ∧ worstV l T x.toNat f + 1 ≤ k))
  | [], s => by simp
  | x :: L, s => by
    rw [List.foldl_cons, stepN_le l T f k L]
    have e : (0 ≤ (stepN l T f s x).1 ∧ (stepN l T f s x).1 ≤ k) ↔ ((0 ≤ s.1 ∧ s.1 ≤ k) ∨ (0 ≤ worstV l T x.toNat f ∧ worstV l T x.toNat f + 1 ≤ k)) := by
      unfold stepN
      split
      · rename_i h; simp only; omega
      · rename_i h; omega
    rw [e]
    simp only [List.mem_cons, exists_eq_or_imp, or_assoc]
theorem stepN_in {n : Int} {l : List Int} (g : GOk n l) {T : List Int} (hT : InS T) (f m : Nat) (hf : f < l.length) (hm : ∀ x, x < l.length → worstV l T x f ≤ m) : ∀ (L : List Int) (s : Int × Bool), (∀ x ∈ L, x.toNat < l.length) → -1 ≤ s.1 → s.1 ≤ m + 1 → -1 ≤ (L.foldl (stepN l T f) s).1 ∧ (L.foldl (stepN l T f) s).1 ≤ m + 1
  | [], s, _, h0, h1 => ⟨h0, h1⟩
  | x :: L, s, hx, h0, h1 => by
    have hw := worstV_in g (by decide) hT x.toNat f (hx x List.mem_cons_self) hf
    have hw2 := hm x.toNat (hx x List.mem_cons_self)
    rw [List.foldl_cons]
    refine stepN_in g hT f m hf hm L _ (fun y hy => hx y (List.mem_cons_of_mem _ hy)) ?_ ?_
    · unfold stepN; split <;> (try simp only) <;> omega
    · unfold stepN; split <;> (try simp only) <;> omega
theorem stepN_flag (l T : List Int) (f : Nat) : ∀ (L : List Int) (s : Int × Bool), (L.foldl (stepN l T f) s).2 = true ↔ s.2 = true ∨ (L.foldl (stepN l T f) s) ≠ s
  | [], s => by simp
  | x :: L, s => by
    rw [List.foldl_cons, stepN_flag l T f L]
    by_cases h : worstV l T x.toNat f ≥ 0 ∧ (s.1 < 0 ∨ worstV l T x.toNat f + 1 < s.1)
    · have e : stepN l T f s x = (worstV l T x.toNat f + 1, true) := by unfold stepN; rw [if_pos h]
      rw [e]
      constructor
      · intro _
        by_cases hs : s.2 = true
        · exact .inl hs
        · right
          intro he
          have : ∀ (L : List Int) (q : Int × Bool), q.2 = true → (L.foldl (stepN l T f) q).2 = true := fun L => by
            induction L with
            | nil => exact fun q h => h
            | cons y L ih => exact fun q h => ih _ (by unfold stepN; split; rfl; exact h)
          have h2 := this L (worstV l T x.toNat f + 1, true) rfl
          rw [he] at h2
          exact hs h2
      · intro _; exact .inl rfl
    · have e : stepN l T f s x = s := by unfold stepN; rw [if_neg h]
      rw [e]
/-- the next table's number at p, f -/
def nextV (l T : List Int) (p f : Nat) : Int := if T.getD (8 * p + f) 0 ≥ 0 then T.getD (8 * p + f) 0 else ((stayL l p).foldl (stepN l T f) (T.getD (8 * p + f) 0, false)).1
/-- the first m places (those of vertices) hold the next table's numbers -/
def GridS (n : Nat) (l T : List Int) (m : Nat) (X : List Int) (ch : Bool) : Prop :=
  X.length = 64 ∧ (∀ i, i < 64 → X.getD i 0 = if i < m ∧ i % 8 < n then nextV l T (i / 8) (i % 8) else T.getD i 0) ∧ (ch = true ↔ ∃ i, i < m ∧ i < 64 ∧ i % 8 < n ∧ nextV l T (i / 8) (i % 8) ≠ T.getD i 0)
theorem GridS.start {n : Nat} {l T : List Int} (hT : T.length = 64) : GridS n l T 0 T false := ⟨hT, fun i hi => by rw [if_neg (by omega)], by simp⟩
theorem GridS.row {n : Nat} {l T X : List Int} {ch : Bool} {p : Nat} (h8 : n ≤ 8) (h : GridS n l T (8 * p + n) X ch) : GridS n l T (8 * (p + 1)) X ch :=
  ⟨h.1, fun i hi => by
    rw [h.2.1 i hi]
    by_cases c : i < 8 * p + n ∧ i % 8 < n
    · rw [if_pos c, if_pos ⟨by omega, c.2⟩]
    · rw [if_neg c, if_neg (by omega)], by
    rw [h.2.2]
    constructor
    · rintro ⟨i, h1, h2⟩; exact ⟨i, by omega, h2⟩
    · rintro ⟨i, h1, h2, h3, h4⟩; exact ⟨i, by omega, h2, h3, h4⟩⟩
theorem GridS.put {n : Nat} {l T X : List Int} {ch : Bool} {p f : Nat} (hp : p < 8) (h8 : n ≤ 8) (hf : f < n) (h : GridS n l T (8 * p + f) X ch) (ch2 : Bool) (hc : ch2 = true ↔ ch = true ∨ nextV l T p f ≠ T.getD (8 * p + f) 0) : GridS n l T (8 * p + (f + 1)) (X.set (8 * p + f) (nextV l T p f)) ch2 := by
  have e1 : (8 * p + f) / 8 = p := by omega
  have e2 : (8 * p + f) % 8 = f := by omega
  refine ⟨by rw [List.length_set]; exact h.1, fun i hi => ?_, ?_⟩
  · rw [getD_set _ _ _ _ (by rw [h.1]; omega)]
    by_cases e : i = 8 * p + f
    · rw [if_pos e, if_pos (by omega), e, e1, e2]
    · rw [if_neg e, h.2.1 i hi]
      by_cases c : i < 8 * p + f ∧ i % 8 < n
      · rw [if_pos c, if_pos ⟨by omega, c.2⟩]
      · rw [if_neg c, if_neg (by omega)]
  · rw [hc, h.2.2]
    constructor
    · rintro (⟨i, h1, h2⟩ | h1)
      · exact ⟨i, by omega, h2⟩
      · exact ⟨8 * p + f, by omega, by omega, by omega, by rw [e1, e2]; exact h1⟩
    · rintro ⟨i, h1, h2, h3, h4⟩
      by_cases e : i = 8 * p + f
      · right; rw [e, e1, e2] at h4; exact h4
      · left; exact ⟨i, by omega, h2, h3, h4⟩
theorem GridS.same {n : Nat} {l T X : List Int} {ch : Bool} {m i : Nat} (hi : i < 64) (hm : m ≤ i) (h : GridS n l T m X ch) : X.getD i 0 = T.getD i 0 := by rw [h.2.1 i hi, if_neg (by omega)]
theorem set_getD (X : List Int) (i : Nat) : X.set i (X.getD i 0) = X := by
  apply List.ext_getElem (by rw [List.length_set])
  intro j h1 h2
  rw [List.getElem_set]
  split
  · rename_i e; subst e; simp [List.getD_eq_getElem?_getD, h2]
  · rfl
section
variable {n : Nat} {l : List Int} (g : GOk (n : Int) l) {T : List Int} (hT : InS T)
include g hT
theorem tab_l4 (p f : Nat) (hp : p < n) (hf : f < n) (X0 : List Int) (hX : X0.length = 64) (r : List Int) (L : List Int) (hL : L.length ≤ 8) (hLv : ∀ y ∈ L, ∃ u : Nat, y = (u : Int) ∧ u < n) :
    ∀ (d i : Nat) (s : Int × Bool), i + d = L.length → Ev (fun k => spec_l05Table.l3 k T (X0.set (8 * p + f) (((L.drop i).foldl (stepN l T f) s).1)) ((L.drop i).foldl (stepN l T f) s).2 (p : Int) ((f + 1 : Nat) : Int) (n : Int) l) r →
    Ev (fun k => spec_l05Table.l4 k T (X0.set (8 * p + f) s.1) s.2 (p : Int) (f : Int) ((8 * p + f : Nat) : Int) L (L.length : Int) (i : Int) (n : Int) l) r
  | 0, i, s, hi, h => by
    have e := nlen g
    have h8 := g.len8
    obtain rfl : i = L.length := by omega
    rw [List.drop_length] at h
    refine Ev.step (fun k => ?_) h
    rw [spec_l05Table.l4.eq_2, if_neg (by omega), wsucc f (by omega)]
    rfl
  | d + 1, i, s, hi, h => by
    have e := nlen g
    have h8 := g.len8
    obtain ⟨u, hu, hun⟩ := hLv _ (getD_mem L i (by omega))
    have hw := worst_spec g T hT u f (by omega) (by omega)
    have hwi := worstV_in g (by decide) hT u f (by omega) (by omega)
    have e1 : wrap64 (worstV l T u f + 1) = worstV l T u f + 1 := by unfold wrap64; omega
    have hat : 8 * p + f < 64 := by omega
    have hset : rd (X0.set (8 * p + f) s.1) ((8 * p + f : Nat) : Int) = s.1 := by rw [rd_nat, getD_set _ _ _ _ (by omega), if_pos rfl]
    have hset2 : ∀ v, (X0.set (8 * p + f) s.1).set (8 * p + f) v = X0.set (8 * p + f) v := fun v => List.set_set ..
    rw [drop_cons L i (by omega), List.foldl_cons] at h
    have ih := tab_l4 p f hp hf X0 hX r L hL hLv d (i + 1) _ (by omega) h
    refine Ev.step (fun k => ?_) (Ev.bind hw (f := fun k t150 => if t150 ≥ 0 then (if 0 ≤ ((8 * p + f : Nat) : Int) then (if ((8 * p + f : Nat) : Int) < ((X0.set (8 * p + f) s.1).length : Int) then (if (rd (X0.set (8 * p + f) s.1) ((8 * p + f : Nat) : Int)) < 0 then (spec_l05Table.l4 k T ((X0.set (8 * p + f) s.1).set (((8 * p + f : Nat) : Int) : Int).toNat (wrap64 (t150 + 1))) true p f ((8 * p + f : Nat) : Int) L L.length (wrap64 (i + 1)) n l) else (if (wrap64 (t150 + 1)) < (rd (X0.set (8 * p + f) s.1) ((8 * p + f : Nat) : Int)) then (spec_l05Table.l4 k T ((X0.set (8 * p + f) s.1).set (((8 * p + f : Nat) : Int) : Int).toNat (wrap64 (t150 + 1))) true p f ((8 * p + f : Nat) : Int) L L.length (wrap64 (i + 1)) n l) else (spec_l05Table.l4 k T (X0.set (8 * p + f) s.1) s.2 p f ((8 * p + f : Nat) : Int) L L.length (wrap64 (i + 1)) n l))) else none) else none) else (spec_l05Table.l4 k T (X0.set (8 * p + f) s.1) s.2 p f ((8 * p + f : Nat) : Int) L L.length (wrap64 (i + 1)) n l)) ?_)
    · rw [spec_l05Table.l4.eq_2, if_pos (by omega), if_pos (by omega), if_pos (by omega), rd_nat, hu]
    · rw [hu] at ih
      refine Ev.congr (fun k => ?_) ih
      simp only [show (0 : Int) ≤ ((8 * p + f : Nat) : Int) from Int.natCast_nonneg _, show ((8 * p + f : Nat) : Int) < ((X0.set (8 * p + f) s.1).length : Int) from by rw [List.length_set]; omega, ↓reduceIte, hset, Int.toNat_natCast, hset2, wsucc i (by omega), e1]
      unfold stepN
      rw [Int.toNat_natCast]
      by_cases c1 : worstV l T u f ≥ 0
      · rw [if_pos c1]
        by_cases c2 : s.1 < 0
        · rw [if_pos c2, if_pos ⟨c1, .inl c2⟩]
        · rw [if_neg c2]
          by_cases c3 : worstV l T u f + 1 < s.1
          · rw [if_pos c3, if_pos ⟨c1, .inr c3⟩]
          · rw [if_neg c3, if_neg (by omega)]
      · rw [if_neg c1, if_neg (by omega)]
theorem tab_l3 (p : Nat) (hp : p < n) (r : List Int) : ∀ (d f : Nat) (X : List Int) (ch : Bool), f + d = n → GridS n l T (8 * p + f) X ch → (∀ X' ch', GridS n l T (8 * (p + 1)) X' ch' → Ev (fun k => spec_l05Table.l2 k T X' ch' ((p + 1 : Nat) : Int) (n : Int) l) r) →
    Ev (fun k => spec_l05Table.l3 k T X ch (p : Int) (f : Int) (n : Int) l) r
  | 0, f, X, ch, hf, hG, h => by
    have e := nlen g
    have h8 := g.len8
    obtain rfl : f = n := by omega
    refine Ev.step (fun k => ?_) (h X ch (GridS.row (by omega) hG))
    rw [spec_l05Table.l3.eq_2, if_neg (by omega), wsucc p (by omega)]
  | d + 1, f, X, ch, hf, hG, h => by
    have e := nlen g
    have h8 := g.len8
    have hat : 8 * p + f < 64 := by omega
    have hTl := hT.1
    have hsame := GridS.same hat (Nat.le_refl _) hG
    by_cases c : T.getD (8 * p + f) 0 ≥ 0
    · have hv : nextV l T p f = T.getD (8 * p + f) 0 := by unfold nextV; rw [if_pos c]
      have hG2 := hG.put (by omega) (by omega) (by omega) ch (by rw [hv]; simp)
      rw [hv, ← hsame, set_getD] at hG2
      refine Ev.step (fun k => ?_) (tab_l3 p hp r d (f + 1) X ch (by omega) hG2 h)
      rw [spec_l05Table.l3.eq_2, if_pos (by omega), at_wrap p f (by omega) (by omega), if_pos (by omega), if_pos (by omega), rd_nat, if_pos c, wsucc f (by omega)]
    · have hv : nextV l T p f = ((stayL l p).foldl (stepN l T f) (T.getD (8 * p + f) 0, ch)).1 := by
        unfold nextV; rw [if_neg c]
        have : ∀ (L : List Int) (b : Int) (c1 c2 : Bool), (L.foldl (stepN l T f) (b, c1)).1 = (L.foldl (stepN l T f) (b, c2)).1 := fun L => by
          induction L with
          | nil => exact fun _ _ _ => rfl
          | cons x L ih =>
            intro b c1 c2
            rw [List.foldl_cons, List.foldl_cons]
            by_cases h : worstV l T x.toNat f ≥ 0 ∧ (b < 0 ∨ worstV l T x.toNat f + 1 < b)
            · simp only [stepN, h, and_self, ↓reduceIte]
            · simp only [stepN, h, ↓reduceIte]; exact ih b c1 c2
        exact this _ _ _ _
      have hfl := stepN_flag l T f (stayL l p) (T.getD (8 * p + f) 0, ch)
      have hG2 := hG.put (by omega) (by omega) (by omega) ((stayL l p).foldl (stepN l T f) (T.getD (8 * p + f) 0, ch)).2 (by
        rw [hfl, hv]
        constructor
        · rintro (h1 | h1)
          · exact .inl h1
          · by_cases h2 : ch = true
            · exact .inl h2
            · right
              intro h3
              apply h1
              have hs : ((stayL l p).foldl (stepN l T f) (T.getD (8 * p + f) 0, ch)).2 = ch := by
                have hkeep : ∀ (L : List Int) (s : Int × Bool), s.1 < 0 → (L.foldl (stepN l T f) s).1 < 0 → L.foldl (stepN l T f) s = s := fun L => by
                  induction L with
                  | nil => exact fun _ _ _ => rfl
                  | cons x L ih =>
                    intro s h1 h2
                    rw [List.foldl_cons] at h2 ⊢
                    by_cases hc : worstV l T x.toNat f ≥ 0 ∧ (s.1 < 0 ∨ worstV l T x.toNat f + 1 < s.1)
                    · exfalso
                      have hle := stepN_le l T f (worstV l T x.toNat f + 1) L (stepN l T f s x)
                      have e : (stepN l T f s x).1 = worstV l T x.toNat f + 1 := by unfold stepN; rw [if_pos hc]
                      have := (hle.2 (.inl (by omega))).1
                      omega
                    · have e : stepN l T f s x = s := by unfold stepN; rw [if_neg hc]
                      rw [e] at h2 ⊢
                      exact ih s h1 h2
                rw [hkeep (stayL l p) (T.getD (8 * p + f) 0, ch) (by simp only; omega) (by rw [h3]; omega)]
              exact Prod.ext h3 hs
        · rintro (h1 | h1)
          · exact .inl h1
          · right; intro h2; apply h1; rw [h2])
      rw [hv] at hG2
      have h4 := tab_l4 g hT p f hp (by omega) X hG.1 r (stayL l p) (stayL_len l p) (fun y hy => by obtain ⟨u, e1, hu, _⟩ := stayL_mem g p (by omega) y hy; exact ⟨u, e1, by omega⟩) (stayL l p).length 0 (T.getD (8 * p + f) 0, ch) (by omega)
        (tab_l3 p hp r d (f + 1) _ _ (by omega) hG2 h)
      rw [show X.set (8 * p + f) (T.getD (8 * p + f) 0, ch).1 = X from by rw [← hsame]; exact set_getD X _] at h4
      refine Ev.step (fun k => ?_) (Ev.bind (f := fun k t146 => spec_l05Table.l4 k T X ch (p : Int) (f : Int) ((8 * p + f : Nat) : Int) t146 (t146.length : Int) 0 (n : Int) l) (steps_spec g p (by omega)) h4)
      rw [spec_l05Table.l3.eq_2, if_pos (by omega), at_wrap p f (by omega) (by omega), if_pos (by omega), if_pos (by omega), rd_nat, if_neg c]
theorem tab_l2 (r : List Int) (h : ∀ X ch, GridS n l T (8 * n) X ch → Ev (fun k => if ch = true then spec_l05Table.l1 k X (n : Int) l else some T) r) : ∀ (d p : Nat) (X : List Int) (ch : Bool), p + d = n → GridS n l T (8 * p) X ch → Ev (fun k => spec_l05Table.l2 k T X ch (p : Int) (n : Int) l) r
  | 0, p, X, ch, hp, hG => by
    obtain rfl : p = n := by omega
    refine Ev.step (fun k => ?_) (h X ch hG)
    rw [spec_l05Table.l2.eq_2, if_neg (by omega)]
  | d + 1, p, X, ch, hp, hG => by
    refine Ev.step (fun k => ?_) (tab_l3 g hT p (by omega) r n 0 X ch (by omega) hG (fun X' ch' hG' => tab_l2 r h d (p + 1) X' ch' (by omega) hG'))
    rw [spec_l05Table.l2.eq_2, if_pos (by omega)]
    rfl
theorem tab_l1 (r : List Int) (h : ∀ X ch, GridS n l T (8 * n) X ch → Ev (fun k => if ch = true then spec_l05Table.l1 k X (n : Int) l else some T) r) : Ev (fun k => spec_l05Table.l1 k T (n : Int) l) r := by
  have hl := hT.1
  refine Ev.step (fun k => ?_) (tab_l2 g hT r h n 0 T false (by omega) (GridS.start hT.1))
  rw [spec_l05Table.l1.eq_2, Option.bind_some, List.nil_append, List.length_nil, if_pos (by omega)]
  rfl
end
/-- the table after r rounds -/
def SVal (n : Nat) (l : List Int) (r : Nat) (T : List Int) : Prop := InB r T ∧ ∀ p f, p < n → f < n → ∀ k : Nat, k < 1000 → ((0 ≤ T.getD (8 * p + f) 0 ∧ T.getD (8 * p + f) 0 ≤ (k : Int)) ↔ win l (min k r) p f = true)
theorem worstV_esc {n : Nat} {l : List Int} (g : GOk (n : Int) l) {r : Nat} {T : List Int} (hT : SVal n l r T) (x f : Nat) (hx : x < n) (hf : f < n) (k : Nat) (hk : k < 1000) : (0 ≤ worstV l T x f ∧ worstV l T x f ≤ (k : Int)) ↔ esc l (min k r) x f = true := by
  unfold worstV
  by_cases h : x = f
  · rw [if_pos h]; subst h; simp [esc_self]
  · rw [if_neg h, worstL_le T x k _ 0 (by omega), esc_iff l x f h]
    constructor
    · intro h2 y hy
      exact (hT.2 x y.toNat hx (stay_vert g f hf y hy) k hk).1 (h2.2 y hy)
    · intro h2
      exact ⟨by omega, fun y hy => (hT.2 x y.toNat hx (stay_vert g f hf y hy) k hk).2 (h2 y hy)⟩
theorem nextV_win {n : Nat} {l : List Int} (g : GOk (n : Int) l) {r : Nat} (hr : r + 1 < 1000) {T : List Int} (hT : SVal n l r T) (p f : Nat) (hp : p < n) (hf : f < n) (k : Nat) (hk : k < 1000) : (0 ≤ nextV l T p f ∧ nextV l T p f ≤ (k : Int)) ↔ win l (min k (r + 1)) p f = true := by
  have h8 := g.len8
  have e := nlen g
  have hb := hT.1.2 (8 * p + f) (by omega)
  unfold nextV
  by_cases c : T.getD (8 * p + f) 0 ≥ 0
  · rw [if_pos c, hT.2 p f hp hf k hk]
    have hv := (hT.2 p f hp hf (T.getD (8 * p + f) 0).toNat (by omega)).1 (by omega)
    by_cases hkr : k ≤ r
    · rw [Nat.min_eq_left hkr, Nat.min_eq_left (by omega)]
    · rw [Nat.min_eq_right (by omega), Nat.min_eq_right (by omega)]
      exact ⟨win_mono1 l r p f, fun _ => win_mono l p f (by omega) hv⟩
  · rw [if_neg c, stepN_le]
    have hno : ∀ j : Nat, j ≤ r → win l j p f = false := fun j hj => by
      cases h : win l j p f with
      | false => rfl
      | true =>
        have := (hT.2 p f hp hf j (by omega)).2 (by rw [Nat.min_eq_left hj]; exact h)
        omega
    have hpf : p ≠ f := fun h => by subst h; have := hno 0 (Nat.zero_le _); rw [win_self] at this; cases this
    rcases k with _ | k
    · rw [Nat.zero_min, hno 0 (Nat.zero_le _)]
      constructor
      · rintro (h | ⟨x, _, h⟩)
        · exfalso; omega
        · exfalso; omega
      · intro h; cases h
    · rw [show min (k + 1) (r + 1) = min k r + 1 from by omega, win_iff l p f hpf]
      constructor
      · rintro (h | ⟨x, hx, h⟩)
        · exfalso; omega
        · exact ⟨x, hx, (worstV_esc g hT x.toNat f (stay_vert g p hp x hx) hf k (by omega)).1 (by omega)⟩
      · rintro ⟨x, hx, h⟩
        have := (worstV_esc g hT x.toNat f (stay_vert g p hp x hx) hf k (by omega)).2 h
        exact .inr ⟨x, hx, by omega⟩
theorem SVal.step {n : Nat} {l : List Int} (g : GOk (n : Int) l) {r : Nat} (hr : r + 1 < 900) {T X : List Int} {ch : Bool} (hT : SVal n l r T) (hX : GridS n l T (8 * n) X ch) : SVal n l (r + 1) X := by
  have h8 := g.len8
  have e := nlen g
  refine ⟨⟨hX.1, fun i hi => ?_⟩, fun p f hp hf k hk => ?_⟩
  · have hb := hT.1.2 i hi
    rw [hX.2.1 i hi]
    split
    · rename_i c
      have hp : i / 8 < n := by omega
      have hw : ∀ x, x < l.length → worstV l T x (i % 8) ≤ (r : Int) := fun x hx => (worstV_in g (by omega) hT.1 x (i % 8) hx (by omega)).2
      unfold nextV
      split
      · have := hT.1.2 (8 * (i / 8) + i % 8) (by omega); omega
      · have hb2 := hT.1.2 (8 * (i / 8) + i % 8) (by omega)
        have := stepN_in g (hT.1.mono (by omega) : InS T) (i % 8) r (by omega) hw (stayL l (i / 8)) (T.getD (8 * (i / 8) + i % 8) 0, false) (fun x hx => by have := stay_vert g (i / 8) hp x hx; omega) (by simp only; omega) (by simp only; omega)
        omega
    · omega
  · have e1 : (8 * p + f) / 8 = p := by omega
    have e2 : (8 * p + f) % 8 = f := by omega
    rw [hX.2.1 _ (by omega), e1, e2, if_pos ⟨by omega, hf⟩]
    exact nextV_win g (by omega) hT p f hp hf k hk
theorem SVal.change {n : Nat} {l : List Int} (g : GOk (n : Int) l) {r : Nat} (hr : r + 1 < 900) {T X : List Int} (hT : SVal n l r T) (hX : GridS n l T (8 * n) X true) : cnt n l r + 1 ≤ cnt n l (r + 1) := by
  have h8 := g.len8
  have e := nlen g
  obtain ⟨i, h1, h2, h3, h4⟩ := hX.2.2.1 rfl
  have hp : i / 8 < n := by omega
  have hT0 : ¬ T.getD (8 * (i / 8) + i % 8) 0 ≥ 0 := fun c => h4 (by unfold nextV; rw [if_pos c]; congr 1; omega)
  have hi : 8 * (i / 8) + i % 8 = i := by omega
  rw [hi] at hT0
  have hb := hT.1.2 i h2
  have hnv := (SVal.step g hr hT hX).1.2 i h2
  rw [hX.2.1 i h2, if_pos ⟨h1, h3⟩] at hnv
  have h5 : 0 ≤ nextV l T (i / 8) (i % 8) := by omega
  refine cnt_step n l (by omega) r (i / 8) (i % 8) hp h3 ?_ ?_
  · cases h : win l r (i / 8) (i % 8) with
    | false => rfl
    | true =>
      have := (hT.2 (i / 8) (i % 8) hp h3 r (by omega)).2 (by rw [Nat.min_self]; exact h)
      rw [hi] at this; omega
  · have := (nextV_win g (by omega) hT (i / 8) (i % 8) hp h3 (r + 1) (by omega)).1 ⟨h5, by omega⟩
    rwa [Nat.min_self] at this
/-- the reference's table as it is handed back -/
structure STab (n : Nat) (l T : List Int) : Prop where
  ins : InS T
  low : InB 64 T
  tab : ∀ p f, p < n → f < n → ∀ k : Nat, k < 1000 → ((0 ≤ T.getD (8 * p + f) 0 ∧ T.getD (8 * p + f) 0 ≤ (k : Int)) ↔ win l k p f = true)
theorem tab_end {n : Nat} {l : List Int} (g : GOk (n : Int) l) {r : Nat} (hr : r ≤ 64) {T : List Int} (hT : SVal n l r T) (hno : ∀ {X : List Int}, ¬ GridS n l T (8 * n) X true) : STab n l T ∧ Ev (fun k => spec_l05Table.l1 k T (n : Int) l) T := by
  have h8 := g.len8
  have e := nlen g
  have hTS : InS T := hT.1.mono (by omega)
  have hnx : ∀ p f, p < n → f < n → nextV l T p f = T.getD (8 * p + f) 0 := fun p f hp hf => by
    apply Decidable.byContradiction
    intro hne
    refine hno (X := (List.range 64).map fun i => if i < 8 * n ∧ i % 8 < n then nextV l T (i / 8) (i % 8) else T.getD i 0) ⟨by simp, fun i hi => by rw [List.getD_eq_getElem?_getD, List.getElem?_map, List.getElem?_range hi]; rfl, ⟨fun _ => ⟨8 * p + f, by omega, by omega, by omega, ?_⟩, fun _ => rfl⟩⟩
    rw [show (8 * p + f) / 8 = p from by omega, show (8 * p + f) % 8 = f from by omega]
    exact hne
  refine ⟨⟨hTS, hT.1.mono (by omega), fun p f hp hf k hk => ?_⟩, tab_l1 g hTS T (fun X ch hX => ?_)⟩
  · have hs : ∀ p f, p < n → f < n → win l (r + 1) p f = true → win l r p f = true := fun p f hp hf h => by
      have h1 := (nextV_win g (by omega) hT p f hp hf (r + 1) (by omega)).2 (by rw [Nat.min_self]; exact h)
      rw [hnx p f hp hf] at h1
      have h2 := (hT.2 p f hp hf (r + 1) (by omega)).1 h1
      rwa [Nat.min_eq_right (by omega)] at h2
    rw [hT.2 p f hp hf k hk, win_min g hs k p f hp hf]
  · cases ch with
    | true => exact absurd hX hno
    | false => simp only [↓reduceIte, Bool.false_eq_true]; exact Ev.now _
theorem tab_all {n : Nat} {l : List Int} (g : GOk (n : Int) l) : ∀ (d r : Nat) (T : List Int), 64 - r ≤ d → r ≤ cnt n l r → SVal n l r T → ∃ T', STab n l T' ∧ Ev (fun k => spec_l05Table.l1 k T (n : Int) l) T' := by
  intro d
  induction d with
  | zero =>
    intro r T hd hr hT
    have h64 := Nat.le_trans hr (cnt_le n l r)
    obtain rfl : r = 64 := by omega
    exact ⟨T, tab_end g (by omega) hT (fun hX => by have := SVal.change g (by omega) hT hX; have := cnt_le n l (64 + 1); omega)⟩
  | succ d ih =>
    intro r T hd hr hT
    have h64 := Nat.le_trans hr (cnt_le n l r)
    have hTS : InS T := hT.1.mono (by omega)
    by_cases hch : ∃ X, GridS n l T (8 * n) X true
    · obtain ⟨X, hX⟩ := hch
      have hc := SVal.change g (by omega) hT hX
      obtain ⟨T', h1, h2⟩ := ih (r + 1) X (by omega) (by omega) (SVal.step g (by omega) hT hX)
      refine ⟨T', h1, tab_l1 g hTS T' (fun X2 ch2 hX2 => ?_)⟩
      have hch2 : ch2 = true := hX2.2.2.2 (hX.2.2.1 rfl)
      have hXX : X2 = X := by
        apply List.ext_getElem (by rw [hX.1, hX2.1])
        intro i h1 h2
        have := (hX2.2.1 i (by rw [hX2.1] at h1; exact h1)).trans (hX.2.1 i (by rw [hX2.1] at h1; exact h1)).symm
        simpa [List.getD_eq_getElem?_getD, List.getElem?_eq_getElem, h1, h2] using this
      subst hch2; subst hXX
      simp only [↓reduceIte]
      exact h2
    · exact ⟨T, tab_end g (by omega) hT (fun hX => absurd ⟨_, hX⟩ hch)⟩
/-- the table at the begin -/
def init0 : List Int := (List.range 64).map fun i => if i / 8 = i % 8 then 0 else -1
theorem init0_at (i : Nat) (hi : i < 64) : init0.getD i 0 = if i / 8 = i % 8 then 0 else -1 := by
  rw [init0, List.getD_eq_getElem?_getD, List.getElem?_map, List.getElem?_range hi]; rfl
theorem init_l0 (n : Int) (l : List Int) (r : List Int) (h : Ev (fun k => spec_l05Table.l1 k init0 n l) r) : ∀ (d i : Nat) (X : List Int), i + d = 64 → X.length = 64 → (∀ j, j < i → X.getD j 0 = init0.getD j 0) → Ev (fun k => spec_l05Table.l0 k X 64 (i : Int) n l) r
  | 0, i, X, hi, hl, hX => by
    obtain rfl : i = 64 := by omega
    have e : X = init0 := by
      apply List.ext_getElem (by rw [hl]; rfl)
      intro j h1 h2
      have := hX j (by omega)
      simpa [List.getD_eq_getElem?_getD, List.getElem?_eq_getElem, h1, h2] using this
    subst e
    refine Ev.step (fun k => ?_) h
    rw [spec_l05Table.l0.eq_2, if_neg (by omega)]
  | d + 1, i, X, hi, hl, hX => by
    have hd8 : Int.tdiv (i : Int) 8 = ((i / 8 : Nat) : Int) := by rw [Int.tdiv_eq_ediv_of_nonneg (by omega)]; omega
    have hm8 : Int.tmod (i : Int) 8 = ((i % 8 : Nat) : Int) := by rw [Int.tmod_eq_emod_of_nonneg (by omega)]; omega
    have hw : wrap64 (((i / 8 : Nat) : Int)) = ((i / 8 : Nat) : Int) := by unfold wrap64; omega
    have hi0 := init0_at i (by omega)
    by_cases c : i / 8 = i % 8
    · rw [if_pos c] at hi0
      refine Ev.step (fun k => ?_) (init_l0 n l r h d (i + 1) ((X.set i (-1)).set i 0) (by omega) (by rw [List.length_set, List.length_set]; exact hl) (fun j hj => ?_))
      · rw [spec_l05Table.l0.eq_2, if_pos (by omega), if_pos (by omega), if_pos (by omega), Option.bind_some, hd8, hm8, hw, if_pos (by omega), wsucc i (by omega), Int.toNat_natCast]
      · rw [getD_set _ _ _ _ (by rw [List.length_set]; omega), getD_set _ _ _ _ (by omega)]
        by_cases e : j = i
        · rw [if_pos e, e, hi0]
        · rw [if_neg e, if_neg e]; exact hX j (by omega)
    · rw [if_neg c] at hi0
      refine Ev.step (fun k => ?_) (init_l0 n l r h d (i + 1) (X.set i (-1)) (by omega) (by rw [List.length_set]; exact hl) (fun j hj => ?_))
      · rw [spec_l05Table.l0.eq_2, if_pos (by omega), if_pos (by omega), if_pos (by omega), Option.bind_some, hd8, hm8, hw, if_neg (by omega), wsucc i (by omega), Int.toNat_natCast]
      · rw [getD_set _ _ _ _ (by omega)]
        by_cases e : j = i
        · rw [if_pos e, e, hi0]
        · rw [if_neg e]; exact hX j (by omega)
theorem init_val {n : Nat} {l : List Int} (g : GOk (n : Int) l) : SVal n l 0 init0 := ⟨⟨rfl, fun i hi => by rw [init0_at i hi]; split <;> omega⟩, fun p f hp hf k hk => by
  have h8 := g.len8
  have e := nlen g
  rw [init0_at _ (by omega), Nat.min_zero, show (8 * p + f) / 8 = p from by omega, show (8 * p + f) % 8 = f from by omega]
  by_cases h : p = f
  · rw [if_pos h]; subst h; simp [win]
  · rw [if_neg h]; simp [win, h]⟩
theorem table_spec {n : Nat} {l : List Int} (g : GOk (n : Int) l) : ∃ T, STab n l T ∧ Ev (fun k => spec_l05Table.f k (n : Int) l) T := by
  obtain ⟨T, h1, h2⟩ := tab_all g 64 0 init0 (by omega) (Nat.zero_le _) (init_val g)
  refine ⟨T, h1, ?_⟩
  have h := init_l0 (n : Int) l T h2 64 0 (List.replicate 64 0) (by omega) (by rw [List.length_replicate]) (fun j hj => absurd hj (Nat.not_lt_zero _))
  refine Ev.congr (fun k => ?_) h
  show spec_l05Table.f k (n : Int) l = _
  unfold spec_l05Table.f
  rw [if_pos (by omega), Option.bind_some, List.length_replicate]
  rfl
theorem leastK_of {v : Int} {P : Nat → Bool} (h0 : -1 ≤ v) (h1 : v < 1000) (h : ∀ k : Nat, k < 1000 → ((0 ≤ v ∧ v ≤ (k : Int)) ↔ P k = true)) : v = leastK P := by
  by_cases hv : v < 0
  · rw [leastK_none (fun k hk => by
      cases e : P k with
      | false => rfl
      | true => have := (h k hk).2 e; omega)]
    omega
  · rw [leastK_some (k := v.toNat) (by omega) ((h v.toNat (by omega)).1 (by omega)) (fun j hj => by
      cases e : P j with
      | false => rfl
      | true => have := (h j (by omega)).2 e; omega)]
    omega
theorem STab.dist {n : Nat} {l T : List Int} (g : GOk (n : Int) l) (h : STab n l T) (p f : Nat) (hp : p < n) (hf : f < n) : T.getD (8 * p + f) 0 = dist l p f := by
  have h8 := g.len8
  have e := nlen g
  have := h.ins.2 (8 * p + f) (by omega)
  exact leastK_of (by omega) (by omega) (h.tab p f hp hf)
theorem STab.edist {n : Nat} {l T : List Int} (g : GOk (n : Int) l) (h : STab n l T) (x f : Nat) (hx : x < n) (hf : f < n) : worstV l T x f = edist l x f := by
  have h8 := g.len8
  have e := nlen g
  have := worstV_in g (by decide) h.ins x f (by omega) (by omega)
  refine leastK_of (by omega) (by omega) (fun k hk => ?_)
  unfold worstV
  by_cases hxf : x = f
  · rw [if_pos hxf]; subst hxf; simp [esc_self]
  · rw [if_neg hxf, worstL_le T x k _ 0 (by omega), esc_iff l x f hxf]
    exact ⟨fun h2 y hy => (h.tab x y.toNat hx (stay_vert g f hf y hy) k hk).1 (h2.2 y hy), fun h2 => ⟨by omega, fun y hy => (h.tab x y.toNat hx (stay_vert g f hf y hy) k hk).2 (h2 y hy)⟩⟩
/-- valid graph and two vertices -/
def Ok2 (n : Int) (l : List Int) (p f : Int) : Prop := GOk n l ∧ verts n [p, f] = true
theorem ok_spec_t {n : Int} {l : List Int} {p f : Int} (h : Ok2 n l p f) : Ev (fun k => spec_l05Ok.f k n l p f) true := by
  have h1 := verts_mem h.2 p (by simp)
  have h2 := verts_mem h.2 f (by simp)
  refine Ev.bind (graph_spec_t h.1) ?_
  simp only [↓reduceIte, vert_spec, Option.bind_some, decide_eq_true h1, decide_eq_true h2]
  exact Ev.now _
theorem ok_spec_f {n : Int} {l : List Int} {p f : Int} (h : ¬ Ok2 n l p f) : Ev (fun k => spec_l05Ok.f k n l p f) false := by
  by_cases g : GOk n l
  · refine Ev.bind (graph_spec_t g) ?_
    simp only [↓reduceIte, vert_spec, Option.bind_some]
    by_cases h1 : 0 ≤ p ∧ p < n
    · have h2 : ¬ (0 ≤ f ∧ f < n) := fun h2 => h ⟨g, by simp [verts, h1, h2]⟩
      simp only [decide_eq_true h1, decide_eq_false h2, ↓reduceIte]
      exact Ev.now _
    · simp only [decide_eq_false h1, ↓reduceIte, Bool.false_eq_true]
      exact Ev.now _
  · refine Ev.bind (graph_spec_f g) ?_
    simp only [↓reduceIte, Bool.false_eq_true]; exact Ev.now _
end Go.Proofs.Ytilanbgciofkjaa.Pure
