/- Taking corners away: both programs take the same ones in the same order. -/
import Derived.Test.YthfpgclhdefiiaaEcover
import Derived.Test.YthfpgclhdefiiaaEints
import Derived.Test.YthfpgclhdefiiaaPAx19
import Derived.Test.YthfpgclhdefiiaaPAx20
import Derived.Test.YthfpgclhdefiiaaPAx23
namespace Go.Proofs.Ythfpgclhdefiiaa.Pure
open Go.RowKit Go.Proofs.YthfpgclhdefiiaaW.PrintWords Go.Proofs.YthfpgclhdefiiaaW.PrintLast Go.Proofs.Ythfpgclhdefiiaa.PA
set_option linter.unusedVariables false
set_option linter.unusedSimpArgs false
theorem all_lt' (n : Nat) : 2 ^ n - 1 < 2 ^ n := by have := Nat.one_le_two_pow (n := n); omega
theorem all_int' (n : Nat) : ((2 ^ n : Nat) : Int) - 1 = ((2 ^ n - 1 : Nat) : Int) := by have := Nat.one_le_two_pow (n := n); omega
theorem dif_sub : ∀ s, s < 256 → ∀ v, v < 8 → s.testBit v = true → dif s (2 ^ v) + 2 ^ v = s := by unfold dif; decide +kernel
theorem find_from (s : Nat) (p : Int → Bool) (v : Nat) (hv : s.testBit v = true) (hp : p (v : Int) = true) (hlow : ∀ u : Nat, u < v → s.testBit u = true → p (u : Int) = false) : ∀ d i, i ≤ v → v < i + d → (elemsFrom s d i).find? p = some (v : Int)
  | 0, i, h1, h2 => by omega
  | d + 1, i, h1, h2 => by
    unfold elemsFrom
    by_cases e : i = v
    · subst e; rw [if_pos hv, List.find?_cons_of_pos hp]
    · have ih := find_from s p v hv hp hlow d (i + 1) (by omega) (by omega)
      cases hb : s.testBit i with
      | true => rw [if_pos rfl, List.find?_cons_of_neg (by rw [hlow i (by omega) hb]; simp), ih]
      | false => rw [if_neg (by simp), ih]
/-- the least corner within s, if there is one -/
def nextR (l : List Int) (s : Nat) : Option Int := (elems s).find? (fun v => decide (0 ≤ leastN l s v.toNat))
theorem nextR_some {l : List Int} {s v : Nat} (hv8 : v < 8) (hv : s.testBit v = true) (hp : 0 ≤ leastN l s v) (hlow : ∀ u : Nat, u < v → s.testBit u = true → leastN l s u < 0) : nextR l s = some (v : Int) :=
  find_from s _ v hv (decide_eq_true (by rw [Int.toNat_natCast]; exact hp)) (fun u hu hb => decide_eq_false (by rw [Int.toNat_natCast]; have := hlow u hu hb; omega)) 8 0 (by omega) (by omega)
theorem nextR_none {l : List Int} {s : Nat} (hlow : ∀ u : Nat, u < 8 → s.testBit u = true → leastN l s u < 0) : nextR l s = none := by
  unfold nextR
  rw [List.find?_eq_none]
  intro x hx
  obtain ⟨u, rfl, hu, hb⟩ := (mem_elems s x).1 hx
  rw [Int.toNat_natCast, decide_eq_true_eq]
  have := hlow u hu hb; omega
theorem nextR_is {l : List Int} {s : Nat} (hs : s < 2 ^ l.length) {x : Int} (h : nextR l s = some x) : ∃ v : Nat, x = (v : Int) ∧ v < l.length ∧ s.testBit v = true ∧ 0 ≤ leastN l s v := by
  unfold nextR at h
  obtain ⟨v, rfl, hv, hb⟩ := elems_vert hs x (List.mem_of_find?_eq_some h)
  have := List.find?_some h
  rw [Int.toNat_natCast, decide_eq_true_eq] at this
  exact ⟨v, rfl, hv, hb, this⟩
theorem leastN_is {l : List Int} {s v : Nat} (hs : s < 2 ^ l.length) (h : 0 ≤ leastN l s v) : ∃ w : Nat, leastN l s v = (w : Int) ∧ w < l.length ∧ s.testBit w = true ∧ w ≠ v := by
  unfold leastN firstOf at h ⊢
  cases hf : (elems s).find? (fun w => covB l s v w.toNat) with
  | none => rw [hf] at h; simp at h
  | some x =>
    obtain ⟨w, rfl, hw, hb⟩ := elems_vert hs x (List.mem_of_find?_eq_some hf)
    have := List.find?_some hf
    refine ⟨w, rfl, hw, hb, fun e => ?_⟩
    subst e
    unfold covB at this; simp at this
/-- what is taken away, each with its cover, and what is left -/
def dis (l : List Int) : Nat → Nat → List (Int × Int) × Nat
  | 0, s => ([], s)
  | f + 1, s => match nextR l s with
    | none => ([], s)
    | some v => (((v, leastN l s v.toNat) :: (dis l f (dif s (2 ^ v.toNat))).1), (dis l f (dif s (2 ^ v.toNat))).2)
theorem dis_none {l : List Int} {f s : Nat} (h : nextR l s = none) : dis l (f + 1) s = ([], s) := by unfold dis; rw [h]
theorem dis_some {l : List Int} {f s v : Nat} (h : nextR l s = some (v : Int)) : dis l (f + 1) s = (((v : Int), leastN l s v) :: (dis l f (dif s (2 ^ v))).1, (dis l f (dif s (2 ^ v))).2) := by
  conv => lhs; unfold dis
  rw [h]
  simp only [Int.toNat_natCast]
theorem dif_lt' {s m : Nat} (b : Nat) (hs : s < m) : dif s b < m := Nat.lt_of_le_of_lt Nat.and_le_left hs
theorem dif_less {s v : Nat} (hs : s < 256) (hv : v < 8) (hb : s.testBit v = true) : dif s (2 ^ v) < s := by
  have := dif_sub s hs v hv hb
  have := Nat.two_pow_pos v; omega
theorem dis_len (l : List Int) : ∀ f s, (dis l f s).1.length ≤ f
  | 0, s => by simp [dis]
  | f + 1, s => by
    unfold dis
    cases nextR l s with
    | none => simp
    | some v => have := dis_len l f (dif s (2 ^ v.toNat)); simp only [List.length_cons]; omega
theorem dis_left {l : List Int} : ∀ f s, s < 2 ^ l.length → (dis l f s).2 < 2 ^ l.length
  | 0, s, h => by simpa [dis] using h
  | f + 1, s, h => by
    unfold dis
    cases nextR l s with
    | none => exact h
    | some v => exact dis_left f _ (dif_lt' _ h)
/-- all that is taken away, and the covers, are in s; nothing is taken twice, and a cover is taken later or never -/
theorem dis_ok {l : List Int} (h8 : l.length ≤ 8) : ∀ f s, s < 2 ^ l.length → (∀ p ∈ (dis l f s).1, ∃ v w : Nat, p = ((v : Int), (w : Int)) ∧ v < l.length ∧ w < l.length ∧ s.testBit v = true ∧ s.testBit w = true ∧ v ≠ w)
    ∧ (dis l f s).1.Pairwise (fun p q => p.1 ≠ q.1 ∧ p.1 ≠ q.2)
  | 0, s, h => by simp [dis]
  | f + 1, s, h => by
    cases hn : nextR l s with
    | none => rw [dis_none hn]; simp
    | some x =>
      obtain ⟨v, rfl, hv, hb, hp⟩ := nextR_is h hn
      obtain ⟨w, hw, hwl, hwb, hwv⟩ := leastN_is h hp
      obtain ⟨h1, h2⟩ := dis_ok h8 f (dif s (2 ^ v)) (dif_lt' _ h)
      rw [dis_some hn]
      constructor
      · intro p hp'
        rcases List.mem_cons.1 hp' with e | e
        · subst e; exact ⟨v, w, by rw [hw], hv, hwl, hb, hwb, fun e => hwv e.symm⟩
        · obtain ⟨a, b, e1, ha, hb', h3, h4, h5⟩ := h1 p e
          rw [dif_bit, Bool.and_eq_true] at h3 h4
          exact ⟨a, b, e1, ha, hb', h3.1, h4.1, h5⟩
      · refine List.Pairwise.cons (fun q hq => ?_) h2
        obtain ⟨a, b, e1, ha, hb', h3, h4, h5⟩ := h1 q hq
        rw [dif_bit, two_bit, Bool.and_eq_true, Bool.not_eq_true', decide_eq_false_iff_not] at h3 h4
        rw [e1]
        exact ⟨by show (v : Int) ≠ (a : Int); omega, by show (v : Int) ≠ (b : Int); omega⟩
theorem Ev_find2 {R : Type} (G : Nat → Nat → Option R) (L : List Int) (p : Int → Bool) (val : Int → R) (no : R) (hs : ∀ i r, i < L.length → p (L.getD i 0) = false → Ev (fun k => G k (i + 1)) r → Ev (fun k => G k i) r)
    (hx : ∀ i, i < L.length → p (L.getD i 0) = true → Ev (fun k => G k i) (val (L.getD i 0))) (he : ∀ k, G (k + 1) L.length = some no) :
    ∀ d i, i + d = L.length → Ev (fun k => G k i) (((L.drop i).find? p).elim no val)
  | 0, i, hi => by
    obtain rfl : i = L.length := by omega
    rw [List.drop_length]
    exact Ev.here he
  | d + 1, i, hi => by
    rw [drop_cons L i (by omega)]
    cases hp : p (L.getD i 0) with
    | true => rw [List.find?_cons_of_pos hp]; exact hx i (by omega) hp
    | false => rw [List.find?_cons_of_neg (by rw [hp]; exact Bool.false_ne_true)]; exact hs i _ (by omega) hp (Ev_find2 G L p val no hs hx he d (i + 1) (by omega))
theorem next_spec {n : Int} {l : List Int} (g : GOk n l) (s : Nat) (hs : s < 2 ^ l.length) : Ev (fun k => spec_l04Next.f k n l (s : Int)) ((nextR l s).elim ((-1 : Int), (-1 : Int)) (fun v => (v, leastN l s v.toNat))) := by
  have p8 := pow8 _ g.len8
  have hlen := elems_len s
  refine Ev.bind (list_spec s (by omega)) ?_
  refine Ev_find2 (fun k i => spec_l04Next.l0 k (s : Int) (elems s) ((elems s).length : Int) (i : Int) n l) (elems s) (fun v => decide (0 ≤ leastN l s v.toNat)) (fun v => (v, leastN l s v.toNat)) _ (fun i r hi hp hr => ?_) (fun i hi hp => ?_) (fun k => ?_) (elems s).length 0 (by omega)
  · obtain ⟨v, hv, hvl, hb⟩ := elems_vert hs _ (getD_mem (elems s) i hi)
    rw [hv, Int.toNat_natCast, decide_eq_false_iff_not] at hp
    refine Ev.step (fun k => ?_) (Ev.bind (f := fun k t => if t ≥ 0 then some ((v : Int), t) else spec_l04Next.l0 k (s : Int) (elems s) ((elems s).length : Int) ((i + 1 : Nat) : Int) n l) (least_spec g s v hs hvl) ?_)
    · rw [spec_l04Next.l0.eq_2, if_pos (by omega), if_pos (by omega), if_pos (by omega), rd_nat, hv, wsucc i (by omega)]
    · simp only [ge_iff_le, hp, ↓reduceIte]; exact hr
  · obtain ⟨v, hv, hvl, hb⟩ := elems_vert hs _ (getD_mem (elems s) i hi)
    rw [hv, Int.toNat_natCast, decide_eq_true_eq] at hp
    rw [hv]
    refine Ev.step (fun k => ?_) (Ev.bind (f := fun k t => if t ≥ 0 then some ((v : Int), t) else spec_l04Next.l0 k (s : Int) (elems s) ((elems s).length : Int) ((i + 1 : Nat) : Int) n l) (least_spec g s v hs hvl) ?_)
    · rw [spec_l04Next.l0.eq_2, if_pos (by omega), if_pos (by omega), if_pos (by omega), rd_nat, hv, wsucc i (by omega)]
    · simp only [ge_iff_le, hp, ↓reduceIte, Int.toNat_natCast]; exact Ev.now _
  · rw [spec_l04Next.l0.eq_2, if_neg (by omega)]
theorem dism_spec_l0 {n : Int} {l : List Int} (g : GOk n l) : ∀ (f s : Nat) (o c : List Int), s < 2 ^ l.length → s < f → o.length + f ≤ 1000 → c.length + f ≤ 1000 →
    Ev (fun k => spec_l04Dismantle.l0 k o c (s : Int) n l) (o ++ (dis l f s).1.map Prod.fst, c ++ (dis l f s).1.map Prod.snd, ((dis l f s).2 : Int))
  | 0, s, o, c, hs, hf, _, _ => by omega
  | f + 1, s, o, c, hs, hf, ho, hc => by
    have p8 := pow8 _ g.len8
    have h8 := g.len8
    have hn := next_spec g s hs
    refine Ev.step (f := fun k => (spec_l04Next.f k n l (s : Int)).bind fun bt => if bt.1 < 0 then some (o, c, (s : Int)) else if o.length < 17592186044416 then if c.length < 17592186044416 then if 0 ≤ bt.1 then spec_l04Dismantle.l0 k (o ++ [bt.1]) (c ++ [bt.2]) (wrap64 ((s : Int) - shl .i64 1 bt.1)) n l else none else none else none) (fun k => by rw [spec_l04Dismantle.l0.eq_2]) (Ev.bind hn ?_)
    cases hx : nextR l s with
    | none =>
      rw [dis_none hx]
      simp only [Option.elim, show ((-1 : Int) < 0) from by decide, ↓reduceIte, List.map_nil, List.append_nil]
      exact Ev.now _
    | some x =>
      obtain ⟨v, rfl, hv, hb, hp⟩ := nextR_is hs hx
      rw [dis_some hx]
      have e := dif_sub s (by omega) v (by omega) hb
      have hl := dif_less (s := s) (v := v) (by omega) (by omega) hb
      have ih := dism_spec_l0 g f (dif s (2 ^ v)) (o ++ [(v : Int)]) (c ++ [leastN l s v]) (dif_lt' _ hs) (by omega) (by simp; omega) (by simp; omega)
      have ew : wrap64 ((s : Int) - ((2 ^ v : Nat) : Int)) = ((dif s (2 ^ v) : Nat) : Int) := by unfold wrap64; omega
      simp only [Option.elim, Int.toNat_natCast, show ¬ ((v : Int) < 0) from by omega, show (0 : Int) ≤ (v : Int) from by omega, show o.length < 17592186044416 from by omega, show c.length < 17592186044416 from by omega, ↓reduceIte, sShl v (show v < 62 by omega), ew]
      rw [List.append_assoc, List.append_assoc] at ih
      exact ih
theorem dism_spec {n : Int} {l : List Int} (g : GOk n l) : Ev (fun k => spec_l04Dismantle.f k n l) ((dis l 256 (2 ^ l.length - 1)).1.map Prod.fst, (dis l 256 (2 ^ l.length - 1)).1.map Prod.snd, ((dis l 256 (2 ^ l.length - 1)).2 : Int)) := by
  have p8 := pow8 _ g.len8
  have hn := g.len
  have h8 := g.len8
  have ha := all_lt' l.length
  refine Ev.congr (fun k => ?_) (dism_spec_l0 g 256 (2 ^ l.length - 1) [] [] ha (by omega) (by simp) (by simp))
  unfold spec_l04Dismantle.f
  rw [if_pos (by omega), ← hn, sShl _ (by omega), two_wrap _ (by omega), all_int']
/-- the program's table of covers -/
def setAll (C : List Int) (P : List (Int × Int)) : List Int := P.foldl (fun C p => C.set p.1.toNat p.2) C
theorem dism_impl_l1 {n : Int} {l : List Int} (g : GOk n l) : ∀ (f s : Nat) (o C : List Int), s < 2 ^ l.length → s < f → o.length + f ≤ 1000 → C.length = l.length →
    ∀ d v, v + d = l.length → (∀ u : Nat, u < v → s.testBit u = true → leastN l s u < 0) →
    Ev (fun k => impl_Graph_dismantled.l1 k o C (s : Int) (v : Int) n l) (o ++ (dis l f s).1.map Prod.fst, setAll C (dis l f s).1, ((dis l f s).2 : Int))
  | 0, s, o, C, hs, hf, _, _, _, _, _, _ => by omega
  | f + 1, s, o, C, hs, hf, ho, hC, 0, v, hv, hlow => by
    have hn := g.len
    rw [dis_none (nextR_none (fun u hu hb => hlow u (by have := bit_in s _ u hs hb; omega) hb))]
    refine Ev.here (fun k => ?_)
    rw [impl_Graph_dismantled.l1.eq_2, if_neg (by omega)]
    simp [setAll]
  | f + 1, s, o, C, hs, hf, ho, hC, d + 1, v, hv, hlow => by
    have hn := g.len
    have p8 := pow8 _ g.len8
    have h8 := g.len8
    cases hb : s.testBit v with
    | false =>
      refine Ev.step (fun k => ?_) (dism_impl_l1 g (f + 1) s o C hs hf ho hC d (v + 1) (by omega) (fun u hu hbu => ?_))
      · rw [impl_Graph_dismantled.l1.eq_2, if_pos (by omega), has_impl s v (by omega) (by omega), Option.bind_some, hb, if_neg (by simp), wsucc v (by omega)]
      · by_cases e : u = v
        · subst e; rw [hb] at hbu; cases hbu
        · exact hlow u (by omega) hbu
    | true =>
      have hc := least_impl g s v hs (by omega)
      refine Ev.step (f := fun k => (impl_Graph_coverOf.f k n l (s : Int) (v : Int)).bind fun t => if t < 0 then impl_Graph_dismantled.l1 k o C (s : Int) ((v + 1 : Nat) : Int) n l else impl_Graph_dismantled.l1 k (o ++ [(v : Int)]) (C.set v t) ((dif s (2 ^ v) : Nat) : Int) 0 n l) (fun k => ?_) (Ev.bind hc ?_)
      · have h2 : (2 : Nat) ^ v < 2 ^ 62 := Nat.pow_lt_pow_right (by decide) (by omega)
        rw [impl_Graph_dismantled.l1.eq_2, if_pos (by omega), has_impl s v (by omega) (by omega), Option.bind_some, hb, if_pos rfl, wsucc v (by omega), bit_impl v (by omega)]
        simp only [Option.bind_some, show o.length < 17592186044416 from by omega, show (0 : Int) ≤ (v : Int) from by omega, show (v : Int) < (C.length : Int) from by omega, ↓reduceIte, Int.toNat_natCast, bDif s (2 ^ v) (by omega) (by omega)]
        rfl
      · by_cases hp : leastN l s v < 0
        · simp only [hp, ↓reduceIte]
          refine dism_impl_l1 g (f + 1) s o C hs hf ho hC d (v + 1) (by omega) (fun u hu hbu => ?_)
          by_cases e : u = v
          · subst e; exact hp
          · exact hlow u (by omega) hbu
        · simp only [hp, ↓reduceIte]
          have hx : nextR l s = some (v : Int) := nextR_some (by omega) hb (by omega) hlow
          have hl := dif_less (s := s) (v := v) (by omega) (by omega) hb
          rw [dis_some hx]
          have ih := dism_impl_l1 g f (dif s (2 ^ v)) (o ++ [(v : Int)]) (C.set v (leastN l s v)) (dif_lt' _ hs) (by omega) (by simp; omega) (by simpa using hC) l.length 0 (by omega) (fun u hu => by omega)
          rw [List.append_assoc] at ih
          exact ih
  termination_by f _ _ _ _ _ _ _ d => (f, d)
theorem dism_impl_l0 {n : Int} {l : List Int} (g : GOk n l) : ∀ d i, i + d = l.length →
    Ev (fun k => impl_Graph_dismantled.l0 k [] (ints i ++ List.replicate d 0) (((2 ^ l.length - 1 : Nat)) : Int) (l.length : Int) (i : Int) n l) ((dis l 256 (2 ^ l.length - 1)).1.map Prod.fst, setAll (ints l.length) (dis l 256 (2 ^ l.length - 1)).1, ((dis l 256 (2 ^ l.length - 1)).2 : Int))
  | 0, i, hi => by
    have p8 := pow8 _ g.len8
    have ha := all_lt' l.length
    obtain rfl : i = l.length := by omega
    have h := dism_impl_l1 g 256 (2 ^ l.length - 1) [] (ints l.length) ha (by omega) (by simp) (ints_len _) l.length 0 (by omega) (fun u hu => by omega)
    refine Ev.step (fun k => ?_) h
    rw [impl_Graph_dismantled.l0.eq_2, if_neg (by omega), List.replicate_zero, List.append_nil]
    rfl
  | d + 1, i, hi => by
    have h8 := g.len8
    have hlen := ints_len i
    refine Ev.step (fun k => ?_) (dism_impl_l0 g d (i + 1) (by omega))
    rw [impl_Graph_dismantled.l0.eq_2, if_pos (by omega), if_pos (by omega), if_pos (by rw [List.length_append, List.length_replicate]; omega), wsucc i (by omega), Int.toNat_natCast]
    congr 1
    rw [List.set_append, if_neg (by omega), hlen, Nat.sub_self, List.replicate_succ, List.set_cons_zero]
    unfold ints
    rw [List.range_succ, List.map_append, List.append_assoc]
    rfl
theorem dism_impl {n : Int} {l : List Int} (g : GOk n l) : Ev (fun k => impl_Graph_dismantled.f k n l) ((dis l 256 (2 ^ l.length - 1)).1.map Prod.fst, setAll (ints l.length) (dis l 256 (2 ^ l.length - 1)).1, ((dis l 256 (2 ^ l.length - 1)).2 : Int)) := by
  have hn := g.len
  have h8 := g.len8
  refine Ev.congr (fun k => ?_) (dism_impl_l0 g l.length 0 (by omega))
  unfold impl_Graph_dismantled.f
  rw [if_pos (by omega), if_pos (by omega), Option.bind_some, ← hn, all_impl _ _ (by omega), Option.bind_some, Int.toNat_natCast, List.length_replicate, all_int']
  rfl
end Go.Proofs.Ythfpgclhdefiiaa.Pure
