/- The tables of the least numbers of shots: what both programs' tables hold. -/
import Derived.Test.YthfpgclhdefiiaaEfox
import Derived.Test.YthfpgclhdefiiaaPAx30
import Derived.Test.YthfpgclhdefiiaaPAx33
namespace Go.Proofs.Ythfpgclhdefiiaa.Pure
open Go.RowKit Go.Proofs.YthfpgclhdefiiaaW.PrintWords Go.Proofs.YthfpgclhdefiiaaW.PrintLast Go.Proofs.Ythfpgclhdefiiaa.PA
set_option linter.unusedVariables false
set_option linter.unusedSimpArgs false
/-- as many different things as fit -/
theorem nodup_fit {α : Type} [DecidableEq α] : ∀ (L M : List α), L.Nodup → (∀ x ∈ L, x ∈ M) → L.length ≤ M.length
  | [], _, _, _ => Nat.zero_le _
  | x :: L, M, hn, hs => by
    rw [List.nodup_cons] at hn
    have hx : x ∈ M := hs x List.mem_cons_self
    have ih := nodup_fit L (M.erase x) hn.2 (fun y hy => (List.mem_erase_of_ne (fun e => hn.1 (by rw [← e]; exact hy))).2 (hs y (List.mem_cons_of_mem _ hy)))
    rw [List.length_erase_of_mem hx] at ih
    have : 0 < M.length := List.length_pos_of_mem hx
    simp only [List.length_cons]; omega
/-- k shots hit a fox that is in s -/
def Wk (l : List Int) : Nat → Nat → Prop
  | 0, s => s = 0
  | k + 1, s => ∃ v, v < l.length ∧ Wk l k (afterN l s v)
/-- k is the least such number -/
def Dk (l : List Int) (k s : Nat) : Prop := Wk l k s ∧ ∀ j, j < k → ¬ Wk l j s
theorem D_of_W {l : List Int} : ∀ (k s : Nat), Wk l k s → ∃ j, j ≤ k ∧ Dk l j s := by
  intro k
  induction k using Nat.strongRecOn with
  | ind k ih =>
    intro s h
    by_cases hj : ∃ j, j < k ∧ Wk l j s
    · obtain ⟨j, hjk, hw⟩ := hj
      obtain ⟨i, h1, h2⟩ := ih j hjk s hw
      exact ⟨i, by omega, h2⟩
    · exact ⟨k, Nat.le_refl _, h, fun j hjk hw => hj ⟨j, hjk, hw⟩⟩
theorem D_uniq {l : List Int} {j k s : Nat} (h1 : Dk l j s) (h2 : Dk l k s) : j = k := by
  rcases Nat.lt_trichotomy j k with h | h | h
  · exact absurd h1.1 (h2.2 j h)
  · exact h
  · exact absurd h2.1 (h1.2 k h)
theorem D_succ {l : List Int} {k s : Nat} (h : Dk l (k + 1) s) : ∃ v, v < l.length ∧ Dk l k (afterN l s v) := by
  obtain ⟨v, hv, hw⟩ := h.1
  exact ⟨v, hv, hw, fun j hj hw2 => h.2 (j + 1) (by omega) ⟨v, hv, hw2⟩⟩
theorem D_mk {l : List Int} {k s v : Nat} (hv : v < l.length) (h : Dk l k (afterN l s v)) (hn : ∀ j, j < k + 1 → ¬ Dk l j s) : Dk l (k + 1) s :=
  ⟨⟨v, hv, h.1⟩, fun j hj hw => by obtain ⟨i, h1, h2⟩ := D_of_W j s hw; exact hn i (by omega) h2⟩
theorem D_zero {l : List Int} (s : Nat) : Dk l 0 s ↔ s = 0 := ⟨fun h => h.1, fun h => ⟨h, fun j hj => by omega⟩⟩
theorem D_down {n : Int} {l : List Int} (g : GOk n l) : ∀ k s, s < 2 ^ l.length → Dk l k s → ∀ j, j ≤ k → ∃ t, t < 2 ^ l.length ∧ Dk l j t
  | 0, s, hs, h, j, hj => ⟨s, hs, by obtain rfl : j = 0 := by omega
                                     exact h⟩
  | k + 1, s, hs, h, j, hj => by
    by_cases e : j = k + 1
    · subst e; exact ⟨s, hs, h⟩
    · obtain ⟨v, _, hd⟩ := D_succ h
      exact D_down g k _ (afterN_lt g s v hs) hd j (by omega)
theorem D_lt {n : Int} {l : List Int} (g : GOk n l) {k s : Nat} (hs : s < 2 ^ l.length) (h : Dk l k s) : k < 256 := by
  have p8 := pow8 _ g.len8
  have hf : ∀ j, ∃ t, j ≤ k → t < 256 ∧ Dk l j t := fun j => by
    by_cases hj : j ≤ k
    · obtain ⟨t, h1, h2⟩ := D_down g k s hs h j hj
      exact ⟨t, fun _ => ⟨by omega, h2⟩⟩
    · exact ⟨0, fun h => absurd h hj⟩
  have hc := fun j => (hf j).choose_spec
  have := nodup_fit ((List.range (k + 1)).map fun j => (hf j).choose) (List.range 256) (by
    rw [List.Nodup, List.pairwise_map]
    refine (List.nodup_range (n := k + 1)).imp_of_mem (fun {a b} ha hb hne he => hne ?_)
    rw [List.mem_range] at ha hb
    have h1 := (hc a (by omega)).2
    have h2 := (hc b (by omega)).2
    rw [he] at h1
    exact D_uniq h1 h2) (fun x hx => by
    obtain ⟨j, hj, rfl⟩ := List.mem_map.1 hx
    rw [List.mem_range] at hj ⊢
    exact (hc j (by omega)).1)
  rw [List.length_map, List.length_range, List.length_range] at this
  omega
theorem getD_set_eq (T : List Int) (i : Nat) (x : Int) (h : i < T.length) : (T.set i x).getD i 0 = x := by
  rw [List.getD_eq_getElem?_getD, List.getElem?_set_self h]; rfl
theorem getD_set_ne (T : List Int) (i j : Nat) (x : Int) (h : i ≠ j) : (T.set i x).getD j 0 = T.getD j 0 := by
  rw [List.getD_eq_getElem?_getD, List.getElem?_set_ne h, ← List.getD_eq_getElem?_getD]
/-- something is told in the end, and it is so -/
def Tells {R : Type} (G : Nat → Option R) (P : R → Prop) : Prop := ∃ r, Ev G r ∧ P r
theorem Tells.step {R : Type} {G f : Nat → Option R} {P : R → Prop} (h : ∀ k, G (k + 1) = f k) (hq : Tells f P) : Tells G P := by
  obtain ⟨r, h1, h2⟩ := hq; exact ⟨r, Ev.step h h1, h2⟩
theorem Tells.bind {A R : Type} {f : Nat → Option A} {a : A} {h : Nat → A → Option R} {P : R → Prop} (ha : Ev f a) (hq : Tells (fun k => h k a) P) : Tells (fun k => (f k).bind (h k)) P := by
  obtain ⟨r, h1, h2⟩ := hq; exact ⟨r, Ev.bind ha h1, h2⟩
theorem Tells.now {R : Type} {r : R} {P : R → Prop} (h : P r) : Tells (fun _ => some r) P := ⟨r, Ev.now r, h⟩
/-- the table tells the distances below k -/
def Kn (l : List Int) (k : Nat) (T : List Int) (s : Nat) : Prop := (T.getD s 0 = -1 ∧ ∀ j, j < k → ¬ Dk l j s) ∨ ∃ j : Nat, j < k ∧ Dk l j s ∧ T.getD s 0 = (j : Int)
/-- the table tells all distances; no stands for none -/
def Good (l : List Int) (no : Int) (T : List Int) : Prop := T.length = 2 ^ l.length ∧ ∀ s, s < 2 ^ l.length → (T.getD s 0 = no ∧ ∀ j, ¬ Dk l j s) ∨ ∃ j : Nat, Dk l j s ∧ T.getD s 0 = (j : Int)
/-- in the round for k + 1, at the set p -/
structure Mid (l : List Int) (k p : Nat) (T : List Int) (ch : Bool) : Prop where
  len : T.length = 2 ^ l.length
  done : ∀ s, s < 2 ^ l.length → s < p → Kn l (k + 2) T s
  todo : ∀ s, s < 2 ^ l.length → p ≤ s → Kn l (k + 1) T s
  no : ch = false → ∀ s, s < 2 ^ l.length → s < p → ¬ Dk l (k + 1) s
  yes : ch = true → ∃ s, s < 2 ^ l.length ∧ Dk l (k + 1) s
theorem Kn.congr {l : List Int} {k : Nat} {T T' : List Int} {s : Nat} (h : Kn l k T s) (e : T'.getD s 0 = T.getD s 0) : Kn l k T' s := by unfold Kn at h ⊢; rw [e]; exact h
theorem spec_l3 {n : Int} {l : List Int} (g : GOk n l) (k : Nat) (hk : k < 256) (p : Nat) (hp : p < 2 ^ l.length)
    (cont : ∀ T ch, Mid l k (p + 1) T ch → Tells (fun f => spec_l08Table.l2 f T ((k + 1 : Nat) : Int) ch ((2 ^ l.length : Nat) : Int) ((p + 1 : Nat) : Int) n l) (Good l (-1))) :
    ∀ d v T ch, v + d = l.length → T.length = 2 ^ l.length → (∀ s, s < 2 ^ l.length → s < p → Kn l (k + 2) T s) → (∀ s, s < 2 ^ l.length → p < s → Kn l (k + 1) T s) →
    (ch = false → ∀ s, s < 2 ^ l.length → s < p → ¬ Dk l (k + 1) s) → (ch = true → ∃ s, s < 2 ^ l.length ∧ Dk l (k + 1) s) →
    ((T.getD p 0 = -1 ∧ (∀ j, j < k + 1 → ¬ Dk l j p) ∧ ∀ u, u < v → ¬ Dk l k (afterN l p u)) ∨ ∃ j : Nat, j < k + 2 ∧ Dk l j p ∧ T.getD p 0 = (j : Int) ∧ (j = k + 1 → ch = true)) →
    Tells (fun f => spec_l08Table.l3 f T ((k + 1 : Nat) : Int) ch (p : Int) (v : Int) ((2 ^ l.length : Nat) : Int) (p : Int) n l) (Good l (-1)) := by
  have p8 := pow8 _ g.len8
  have hn := g.len
  have h8 := g.len8
  have leave : ∀ T ch, T.length = 2 ^ l.length → (∀ s, s < 2 ^ l.length → s < p → Kn l (k + 2) T s) → (∀ s, s < 2 ^ l.length → p < s → Kn l (k + 1) T s) →
    (ch = false → ∀ s, s < 2 ^ l.length → s < p → ¬ Dk l (k + 1) s) → (ch = true → ∃ s, s < 2 ^ l.length ∧ Dk l (k + 1) s) →
    ((T.getD p 0 = -1 ∧ ∀ j, j < k + 2 → ¬ Dk l j p) ∨ ∃ j : Nat, j < k + 2 ∧ Dk l j p ∧ T.getD p 0 = (j : Int) ∧ (j = k + 1 → ch = true)) → Mid l k (p + 1) T ch := by
    intro T ch hlen h1 h2 h3 h4 h5
    refine ⟨hlen, fun s hs hsp => ?_, fun s hs hsp => h2 s hs (by omega), fun hc s hs hsp => ?_, h4⟩
    · by_cases e : s = p
      · subst e
        rcases h5 with h | ⟨j, hj, hd, ht, _⟩
        · exact Or.inl h
        · exact Or.inr ⟨j, hj, hd, ht⟩
      · exact h1 s hs (by omega)
    · by_cases e : s = p
      · subst e
        rcases h5 with h | ⟨j, hj, hd, ht, hj2⟩
        · exact h.2 _ (by omega)
        · intro hd2
          have := hj2 (D_uniq hd hd2)
          rw [hc] at this; cases this
      · exact h3 hc s hs (by omega)
  intro d
  induction d with
  | zero =>
    intro v T ch hv hlen h1 h2 h3 h4 h5
    refine Tells.step (f := fun f => spec_l08Table.j4 f T ((k + 1 : Nat) : Int) ch (p : Int) (v : Int) ((2 ^ l.length : Nat) : Int) (p : Int) false n l) (fun f => by rw [spec_l08Table.l3.eq_2, if_neg (by omega)]) ?_
    refine Tells.step (fun f => ?_) (cont T ch (leave T ch hlen h1 h2 h3 h4 ?_))
    · rw [spec_l08Table.j4.eq_2, if_neg (by simp), wsucc p (by omega)]
    · rcases h5 with h | h
      · refine Or.inl ⟨h.1, fun j hj hd => ?_⟩
        by_cases e : j = k + 1
        · subst e
          obtain ⟨u, hu, hd2⟩ := D_succ hd
          exact h.2.2 u (by omega) hd2
        · exact h.2.1 j (by omega) hd
      · exact Or.inr h
  | succ d ih =>
    intro v T ch hv hlen h1 h2 h3 h4 h5
    refine Tells.step (f := fun f => spec_l08Table.j4 f T ((k + 1 : Nat) : Int) ch (p : Int) (v : Int) ((2 ^ l.length : Nat) : Int) (p : Int) (decide (T.getD p 0 < 0)) n l) (fun f => by rw [spec_l08Table.l3.eq_2, if_pos (by omega), if_pos (by omega), if_pos (by omega), rd_nat]) ?_
    rcases h5 with h | ⟨j, hj, hd, ht, hj2⟩
    · have hA := afterN_lt g p v hp
      have ha := after_spec g p v hp (by omega)
      refine Tells.step (f := fun f => (spec_l08After.f f n l (p : Int) (v : Int)).bind fun t => if 0 ≤ t then if t < (T.length : Int) then if rd T t = (k : Int) then spec_l08Table.l3 f (T.set p ((k + 1 : Nat) : Int)) ((k + 1 : Nat) : Int) true (p : Int) ((v + 1 : Nat) : Int) ((2 ^ l.length : Nat) : Int) (p : Int) n l else spec_l08Table.l3 f T ((k + 1 : Nat) : Int) ch (p : Int) ((v + 1 : Nat) : Int) ((2 ^ l.length : Nat) : Int) (p : Int) n l else none else none) (fun f => ?_) (Tells.bind ha ?_)
      · rw [spec_l08Table.j4.eq_2, if_pos (by rw [decide_eq_true (by omega)]), wsucc v (by omega), show wrap64 (((k + 1 : Nat) : Int) - 1) = (k : Int) from by unfold wrap64; omega]
        simp only [show (0 : Int) ≤ (p : Int) from by omega, show (p : Int) < (T.length : Int) from by omega, ↓reduceIte, Int.toNat_natCast]
      · simp only [show (0 : Int) ≤ (afterN l p v : Int) from by omega, show (afterN l p v : Int) < (T.length : Int) from by omega, ↓reduceIte, rd_nat]
        have hiff : T.getD (afterN l p v) 0 = (k : Int) ↔ Dk l k (afterN l p v) := by
          by_cases e : afterN l p v = p
          · rw [e]
            exact ⟨fun h0 => by omega, fun hd => absurd hd (h.2.1 k (by omega))⟩
          · have hK : (T.getD (afterN l p v) 0 = -1 ∧ ¬ Dk l k (afterN l p v)) ∨ ∃ j : Nat, Dk l j (afterN l p v) ∧ T.getD (afterN l p v) 0 = (j : Int) := by
              rcases Nat.lt_or_gt_of_ne e with e | e
              · rcases h1 _ hA e with q | ⟨j, _, q1, q2⟩
                · exact Or.inl ⟨q.1, q.2 k (by omega)⟩
                · exact Or.inr ⟨j, q1, q2⟩
              · rcases h2 _ hA e with q | ⟨j, _, q1, q2⟩
                · exact Or.inl ⟨q.1, q.2 k (by omega)⟩
                · exact Or.inr ⟨j, q1, q2⟩
            rcases hK with q | ⟨j, q1, q2⟩
            · exact ⟨fun h0 => by omega, fun hd => absurd hd q.2⟩
            · constructor
              · intro h0; obtain rfl : j = k := by omega
                exact q1
              · intro hd; rw [q2, D_uniq q1 hd]
        by_cases hd : Dk l k (afterN l p v)
        · simp only [hiff.2 hd, ↓reduceIte]
          have hD := D_mk (by omega) hd h.2.1
          refine ih (v + 1) _ true (by omega) (by rw [List.length_set]; exact hlen) (fun s hs hsp => (h1 s hs hsp).congr (getD_set_ne _ _ _ _ (by omega))) (fun s hs hsp => (h2 s hs hsp).congr (getD_set_ne _ _ _ _ (by omega))) (fun h0 => by cases h0) (fun _ => ⟨p, hp, hD⟩) (Or.inr ⟨k + 1, by omega, hD, getD_set_eq _ _ _ (by omega), fun _ => rfl⟩)
        · simp only [show ¬ (T.getD (afterN l p v) 0 = (k : Int)) from fun h0 => hd (hiff.1 h0), ↓reduceIte]
          refine ih (v + 1) T ch (by omega) hlen h1 h2 h3 h4 (Or.inl ⟨h.1, h.2.1, fun u hu => ?_⟩)
          by_cases e : u = v
          · subst e; exact hd
          · exact h.2.2 u (by omega)
    · refine Tells.step (fun f => ?_) (cont T ch (leave T ch hlen h1 h2 h3 h4 (Or.inr ⟨j, hj, hd, ht, hj2⟩)))
      rw [spec_l08Table.j4.eq_2, if_neg (by rw [decide_eq_false (by omega)]; simp), wsucc p (by omega)]
theorem spec_l2 {n : Int} {l : List Int} (g : GOk n l) (k : Nat) (hk : k < 256)
    (cont : ∀ T ch, Mid l k (2 ^ l.length) T ch → Tells (fun f => if ch = true then spec_l08Table.l1 f T ((k + 2 : Nat) : Int) n l else some T) (Good l (-1))) :
    ∀ d p T ch, p + d = 2 ^ l.length → Mid l k p T ch → Tells (fun f => spec_l08Table.l2 f T ((k + 1 : Nat) : Int) ch ((2 ^ l.length : Nat) : Int) (p : Int) n l) (Good l (-1)) := by
  have p8 := pow8 _ g.len8
  intro d
  induction d with
  | zero =>
    intro p T ch hp h
    obtain rfl : p = 2 ^ l.length := by omega
    refine Tells.step (fun f => ?_) (cont T ch h)
    rw [spec_l08Table.l2.eq_2, if_neg (by omega), show wrap64 (((k + 1 : Nat) : Int) + 1) = ((k + 2 : Nat) : Int) from wsucc (k + 1) (by omega)]
  | succ d ih =>
    intro p T ch hp h
    refine Tells.step (fun f => by rw [spec_l08Table.l2.eq_2, if_pos (by omega)]; rfl) (spec_l3 g k hk p (by omega) (fun T' ch' h' => ih (p + 1) T' ch' (by omega) h') l.length 0 T ch (by omega) h.len h.done (fun s hs hsp => h.todo s hs (by omega)) h.no h.yes ?_)
    rcases h.todo p (by omega) (by omega) with q | ⟨j, q1, q2, q3⟩
    · exact Or.inl ⟨q.1, q.2, fun u hu => by omega⟩
    · exact Or.inr ⟨j, by omega, q2, q3, fun e => by omega⟩
theorem spec_l1 {n : Int} {l : List Int} (g : GOk n l) : ∀ f k T, k + f = 256 → T.length = 2 ^ l.length → (∀ s, s < 2 ^ l.length → Kn l (k + 1) T s) → (∃ s, s < 2 ^ l.length ∧ Dk l k s) →
    Tells (fun f => spec_l08Table.l1 f T ((k + 1 : Nat) : Int) n l) (Good l (-1))
  | 0, k, T, hf, hl, hK, ⟨s, hs, hd⟩ => by have := D_lt g hs hd; omega
  | f + 1, k, T, hf, hl, hK, hd => by
    refine Tells.step (fun f => by rw [spec_l08Table.l1.eq_2]) ?_
    rw [hl]
    refine spec_l2 g k (by omega) (fun T' ch' h' => ?_) (2 ^ l.length) 0 T false (by omega) ⟨hl, fun s hs h0 => by omega, fun s hs _ => hK s hs, fun _ s hs h0 => by omega, fun h0 => by cases h0⟩
    cases ch' with
    | true =>
      simp only [↓reduceIte]
      exact spec_l1 g f (k + 1) T' (by omega) h'.len (fun s hs => h'.done s hs hs) (h'.yes rfl)
    | false =>
      simp only [↓reduceIte, Bool.false_eq_true]
      refine Tells.now ⟨h'.len, fun s hs => ?_⟩
      have hno : ∀ i s, s < 2 ^ l.length → ¬ Dk l (k + 1 + i) s := by
        intro i
        induction i with
        | zero => exact fun s hs => h'.no rfl s hs hs
        | succ i ih2 =>
          intro s hs hd
          obtain ⟨v, _, hd2⟩ := D_succ hd
          exact ih2 _ (afterN_lt g s v hs) hd2
      rcases h'.done s hs hs with q | ⟨j, _, q1, q2⟩
      · refine Or.inl ⟨q.1, fun j hd => ?_⟩
        by_cases hj : j < k + 2
        · exact q.2 j hj hd
        · refine hno (j - (k + 1)) s hs ?_
          rw [show k + 1 + (j - (k + 1)) = j from by omega]; exact hd
      · exact Or.inr ⟨j, q1, q2⟩
theorem spec_l0 {n : Int} {l : List Int} (g : GOk n l) : ∀ d i T, i + d = 2 ^ l.length → T.length = 2 ^ l.length → (∀ s, s < i → T.getD s 0 = -1) →
    Tells (fun f => spec_l08Table.l0 f T ((2 ^ l.length : Nat) : Int) (i : Int) n l) (Good l (-1))
  | 0, i, T, hi, hl, hT => by
    have hp := Nat.two_pow_pos l.length
    refine Tells.step (fun f => ?_) (spec_l1 g 256 0 (T.set 0 0) (by omega) (by rw [List.length_set]; exact hl) (fun s hs => ?_) ⟨0, hp, (D_zero 0).2 rfl⟩)
    · rw [spec_l08Table.l0.eq_2, if_neg (by omega), if_pos (by omega)]
      rfl
    · by_cases e : s = 0
      · subst e
        exact Or.inr ⟨0, by omega, (D_zero 0).2 rfl, getD_set_eq _ _ _ (by omega)⟩
      · refine Or.inl ⟨by rw [getD_set_ne _ _ _ _ (by omega)]; exact hT s (by omega), fun j hj hd => e ?_⟩
        obtain rfl : j = 0 := by omega
        exact (D_zero s).1 hd
  | d + 1, i, T, hi, hl, hT => by
    have p8 := pow8 _ g.len8
    refine Tells.step (fun f => ?_) (spec_l0 g d (i + 1) (T.set i (-1)) (by omega) (by rw [List.length_set]; exact hl) (fun s hs => ?_))
    · rw [spec_l08Table.l0.eq_2, if_pos (by omega), if_pos (by omega), if_pos (by omega), wsucc i (by omega), Int.toNat_natCast]
    · by_cases e : s = i
      · subst e; exact getD_set_eq _ _ _ (by omega)
      · rw [getD_set_ne _ _ _ _ (by omega)]; exact hT s (by omega)
theorem table_spec {n : Int} {l : List Int} (g : GOk n l) : Tells (fun f => spec_l08Table.f f n l) (Good l (-1)) := by
  have hn := g.len
  have h8 := g.len8
  have p8 := pow8 _ g.len8
  obtain ⟨r, h1, h2⟩ := spec_l0 g (2 ^ l.length) 0 (List.replicate (2 ^ l.length) 0) (by omega) (by rw [List.length_replicate]) (fun s hs => by omega)
  refine ⟨r, Ev.congr (fun k => ?_) h1, h2⟩
  unfold spec_l08Table.f
  rw [if_pos (by omega), ← hn, sShl _ (by omega), if_pos (Int.natCast_nonneg _), Int.toNat_natCast, if_pos (by omega), Option.bind_some, List.length_replicate]
  rfl
end Go.Proofs.Ythfpgclhdefiiaa.Pure
