/- The program's table of the least numbers of shots. -/
import Derived.Test.YthfpgclhdefiiaaEfew
namespace Go.Proofs.Ythfpgclhdefiiaa.Pure
open Go.RowKit Go.Proofs.YthfpgclhdefiiaaW.PrintWords Go.Proofs.YthfpgclhdefiiaaW.PrintLast Go.Proofs.Ythfpgclhdefiiaa.PA
set_option linter.unusedVariables false
set_option linter.unusedSimpArgs false
def mu (T : List Int) : Nat := (T.map Int.toNat).sum
theorem mu_set : ∀ (T : List Int) (i : Nat) (x : Int), i < T.length → x.toNat < (T.getD i 0).toNat → mu (T.set i x) < mu T
  | [], i, x, h, _ => by simp at h
  | y :: T, 0, x, _, h => by
    have h' : x.toNat < y.toNat := h
    show (((x :: T).map Int.toNat).sum) < (((y :: T).map Int.toNat).sum)
    simp only [List.map_cons, List.sum_cons]; omega
  | y :: T, i + 1, x, hi, h => by
    have ih := mu_set T i x (by simpa using hi) h
    unfold mu at ih ⊢
    show (((y :: T.set i x).map Int.toNat).sum) < (((y :: T).map Int.toNat).sum)
    simp only [List.map_cons, List.sum_cons]; omega
structure TInv (l : List Int) (T : List Int) : Prop where
  len : T.length = 2 ^ l.length
  zero : T.getD 0 0 = 0
  val : ∀ s, s < 2 ^ l.length → T.getD s 0 = 1000 ∨ ∃ j : Nat, j < 1000 ∧ T.getD s 0 = (j : Int) ∧ Wk l j s
theorem impl_l3 {n : Int} {l : List Int} (g : GOk n l) (m0 : Nat) (p : Nat) (hp : p < 2 ^ l.length)
    (cont : ∀ T ch, TInv l T → mu T ≤ m0 → (ch = true → mu T < m0) → (ch = false → ∀ s, s < p + 1 → ∀ u, u < l.length → T.getD s 0 ≤ 1 + T.getD (afterN l s u) 0) → Tells (fun f => impl_Graph_shotsLeft.l2 f T ch ((2 ^ l.length : Nat) : Int) ((p + 1 : Nat) : Int) n l) (Good l 1000)) :
    ∀ d v T ch, v + d = l.length → TInv l T → mu T ≤ m0 → (ch = true → mu T < m0) → (ch = false → (∀ s, s < p → ∀ u, u < l.length → T.getD s 0 ≤ 1 + T.getD (afterN l s u) 0) ∧ ∀ u, u < v → T.getD p 0 ≤ 1 + T.getD (afterN l p u) 0) →
    Tells (fun f => impl_Graph_shotsLeft.l3 f T ch (p : Int) ((2 ^ l.length : Nat) : Int) (p : Int) n (v : Int) n l) (Good l 1000) := by
  have p8 := pow8 _ g.len8
  have hn := g.len
  have h8 := g.len8
  intro d
  induction d with
  | zero =>
    intro v T ch hv hI h1 h2 h3
    refine Tells.step (fun f => ?_) (cont T ch hI h1 h2 (fun hc s hs u hu => ?_))
    · rw [impl_Graph_shotsLeft.l3.eq_2, if_neg (by omega), wsucc p (by omega)]
    · by_cases e : s = p
      · subst e; exact (h3 hc).2 u (by omega)
      · exact (h3 hc).1 s (by omega) u hu
  | succ d ih =>
    intro v T ch hv hI h1 h2 h3
    have hA := afterN_lt g p v hp
    have ha := after_impl g p v hp (by omega)
    have hlen := hI.len
    have hb : (0 : Int) ≤ T.getD (afterN l p v) 0 ∧ T.getD (afterN l p v) 0 ≤ 1000 := by
      rcases hI.val _ hA with q | ⟨j, q1, q2, _⟩ <;> omega
    refine Tells.step (f := fun f => (impl_Graph_afterShot.f f n l (p : Int) (v : Int)).bind fun t => if 0 ≤ t then if t < (T.length : Int) then if wrap64 (1 + rd T t) < T.getD p 0 then impl_Graph_shotsLeft.l3 f (T.set p (wrap64 (1 + rd T t))) true (p : Int) ((2 ^ l.length : Nat) : Int) (p : Int) n ((v + 1 : Nat) : Int) n l else impl_Graph_shotsLeft.l3 f T ch (p : Int) ((2 ^ l.length : Nat) : Int) (p : Int) n ((v + 1 : Nat) : Int) n l else none else none) (fun f => ?_) (Tells.bind ha ?_)
    · rw [impl_Graph_shotsLeft.l3.eq_2, if_pos (by omega), wsucc v (by omega)]
      simp only [show (0 : Int) ≤ (p : Int) from by omega, show (p : Int) < (T.length : Int) from by omega, ↓reduceIte, Int.toNat_natCast, rd_nat]
      rfl
    · simp only [show (0 : Int) ≤ (afterN l p v : Int) from by omega, show (afterN l p v : Int) < (T.length : Int) from by omega, ↓reduceIte, rd_nat]
      have ew : wrap64 (1 + T.getD (afterN l p v) 0) = 1 + T.getD (afterN l p v) 0 := by unfold wrap64; omega
      simp only [ew]
      by_cases hlt : 1 + T.getD (afterN l p v) 0 < T.getD p 0
      · simp only [hlt, ↓reduceIte]
        have hp1000 : T.getD p 0 ≤ 1000 := by rcases hI.val _ hp with q | ⟨j, q1, q2, _⟩ <;> omega
        have hp0 : p ≠ 0 := fun e => by rw [e, hI.zero] at hlt; rw [e] at hb; omega
        have hmu := mu_set T p (1 + T.getD (afterN l p v) 0) (by omega) (by omega)
        refine ih (v + 1) _ true (by omega) ⟨by rw [List.length_set]; exact hlen, by rw [getD_set_ne _ _ _ _ hp0]; exact hI.zero, fun s hs => ?_⟩ (by omega) (fun _ => by omega) (fun h0 => by cases h0)
        by_cases e : s = p
        · subst e
          rw [getD_set_eq _ _ _ (by omega)]
          rcases hI.val _ hA with q | ⟨j, q1, q2, q3⟩
          · omega
          · exact Or.inr ⟨j + 1, by omega, by omega, v, by omega, q3⟩
        · rw [getD_set_ne _ _ _ _ (by omega)]; exact hI.val s hs
      · simp only [hlt, ↓reduceIte]
        refine ih (v + 1) T ch (by omega) hI h1 h2 (fun hc => ⟨(h3 hc).1, fun u hu => ?_⟩)
        by_cases e : u = v
        · subst e; omega
        · exact (h3 hc).2 u (by omega)
theorem impl_l2 {n : Int} {l : List Int} (g : GOk n l) (m0 : Nat)
    (cont : ∀ T ch, TInv l T → (ch = true → mu T < m0) → (ch = false → ∀ s, s < 2 ^ l.length → ∀ u, u < l.length → T.getD s 0 ≤ 1 + T.getD (afterN l s u) 0) → Tells (fun f => impl_Graph_shotsLeft.l1 f T ch n l) (Good l 1000)) :
    ∀ d p T ch, p + d = 2 ^ l.length → TInv l T → mu T ≤ m0 → (ch = true → mu T < m0) → (ch = false → ∀ s, s < p → ∀ u, u < l.length → T.getD s 0 ≤ 1 + T.getD (afterN l s u) 0) →
    Tells (fun f => impl_Graph_shotsLeft.l2 f T ch ((2 ^ l.length : Nat) : Int) (p : Int) n l) (Good l 1000) := by
  have p8 := pow8 _ g.len8
  intro d
  induction d with
  | zero =>
    intro p T ch hp hI h1 h2 h3
    obtain rfl : p = 2 ^ l.length := by omega
    refine Tells.step (fun f => ?_) (cont T ch hI h2 h3)
    rw [impl_Graph_shotsLeft.l2.eq_2, if_neg (by omega)]
  | succ d ih =>
    intro p T ch hp hI h1 h2 h3
    refine Tells.step (fun f => by rw [impl_Graph_shotsLeft.l2.eq_2, if_pos (by omega)]; rfl) (impl_l3 g m0 p (by omega) (fun T' ch' hI' h1' h2' h3' => ih (p + 1) T' ch' (by omega) hI' h1' h2' h3') l.length 0 T ch (by omega) hI h1 h2 (fun hc => ⟨h3 hc, fun u hu => by omega⟩))
theorem impl_good {n : Int} {l : List Int} (g : GOk n l) {T : List Int} (hI : TInv l T) (hst : ∀ s, s < 2 ^ l.length → ∀ u, u < l.length → T.getD s 0 ≤ 1 + T.getD (afterN l s u) 0) : Good l 1000 T := by
  have hle : ∀ k s, s < 2 ^ l.length → Wk l k s → T.getD s 0 ≤ (k : Int) := by
    intro k
    induction k with
    | zero => intro s hs hw; rw [show s = 0 from hw, hI.zero]; omega
    | succ k ih =>
      rintro s hs ⟨v, hv, hw⟩
      have h1 := ih _ (afterN_lt g s v hs) hw
      have h2 := hst s hs v hv
      omega
  refine ⟨hI.len, fun s hs => ?_⟩
  rcases hI.val s hs with q | ⟨j, q1, q2, q3⟩
  · refine Or.inl ⟨q, fun j hd => ?_⟩
    have h1 := D_lt g hs hd
    have h2 := hle j s hs hd.1
    omega
  · refine Or.inr ⟨j, ⟨q3, fun i hi hw => ?_⟩, q2⟩
    have := hle i s hs hw
    omega
theorem impl_l1 {n : Int} {l : List Int} (g : GOk n l) : ∀ m T, mu T < m → TInv l T → Tells (fun f => impl_Graph_shotsLeft.l1 f T true n l) (Good l 1000)
  | 0, T, hm, _ => by omega
  | m + 1, T, hm, hI => by
    refine Tells.step (fun f => by rw [impl_Graph_shotsLeft.l1.eq_2, if_pos rfl]) ?_
    rw [hI.len]
    refine impl_l2 g (mu T) (fun T' ch' hI' h1 h2 => ?_) (2 ^ l.length) 0 T false (by omega) hI (Nat.le_refl _) (fun h0 => by cases h0) (fun _ s hs => by omega)
    cases ch' with
    | true => exact impl_l1 g m T' (by have := h1 rfl; omega) hI'
    | false =>
      refine Tells.step (f := fun _ => some T') (fun f => ?_) (Tells.now (impl_good g hI' (h2 rfl)))
      rw [impl_Graph_shotsLeft.l1.eq_2, if_neg (by simp)]
theorem impl_l0 {n : Int} {l : List Int} (g : GOk n l) : ∀ d i T, i + d = 2 ^ l.length → T.length = 2 ^ l.length → T.getD 0 0 = 0 → (∀ s, 0 < s → s < i → T.getD s 0 = 1000) →
    Tells (fun f => impl_Graph_shotsLeft.l0 f T ((2 ^ l.length : Nat) : Int) (i : Int) n l) (Good l 1000)
  | 0, i, T, hi, hl, h0, hT => by
    refine Tells.step (fun f => ?_) (impl_l1 g (mu T + 1) T (by omega) ⟨hl, h0, fun s hs => ?_⟩)
    · rw [impl_Graph_shotsLeft.l0.eq_2, if_neg (by omega)]
    · by_cases e : s = 0
      · subst e; exact Or.inr ⟨0, by omega, h0, rfl⟩
      · exact Or.inl (hT s (by omega) (by omega))
  | d + 1, i, T, hi, hl, h0, hT => by
    have p8 := pow8 _ g.len8
    by_cases e : i = 0
    · subst e
      refine Tells.step (fun f => ?_) (impl_l0 g d (0 + 1) T (by omega) hl h0 (fun s h1 h2 => by omega))
      rw [impl_Graph_shotsLeft.l0.eq_2, if_pos (by omega), if_neg (by omega), wsucc 0 (by omega)]
    · refine Tells.step (fun f => ?_) (impl_l0 g d (i + 1) (T.set i 1000) (by omega) (by rw [List.length_set]; exact hl) (by rw [getD_set_ne _ _ _ _ e]; exact h0) (fun s h1 h2 => ?_))
      · rw [impl_Graph_shotsLeft.l0.eq_2, if_pos (by omega), if_pos (by omega), if_pos (by omega), if_pos (by omega), wsucc i (by omega), Int.toNat_natCast]
      · by_cases e2 : s = i
        · subst e2; exact getD_set_eq _ _ _ (by omega)
        · rw [getD_set_ne _ _ _ _ (by omega)]; exact hT s h1 (by omega)
theorem table_impl {n : Int} {l : List Int} (g : GOk n l) : Tells (fun f => impl_Graph_shotsLeft.f f n l) (Good l 1000) := by
  have hn := g.len
  have h8 := g.len8
  have p8 := pow8 _ g.len8
  have hp := Nat.two_pow_pos l.length
  obtain ⟨r, h1, h2⟩ := impl_l0 g (2 ^ l.length) 0 (List.replicate (2 ^ l.length) 0) (by omega) (by rw [List.length_replicate]) (by rw [List.getD_eq_getElem?_getD, List.getElem?_replicate, if_pos hp]; rfl) (fun s _ hs => by omega)
  refine ⟨r, Ev.congr (fun k => ?_) h1, h2⟩
  have ew : wrap64 (((2 ^ l.length : Nat) : Int) - 1 + 1) = ((2 ^ l.length : Nat) : Int) := by unfold wrap64; omega
  unfold impl_Graph_shotsLeft.f
  rw [← hn, all_impl _ _ (by omega), Option.bind_some, ew, if_pos (Int.natCast_nonneg _), Int.toNat_natCast, if_pos (by omega), Option.bind_some, List.length_replicate]
  rfl
end Go.Proofs.Ythfpgclhdefiiaa.Pure
