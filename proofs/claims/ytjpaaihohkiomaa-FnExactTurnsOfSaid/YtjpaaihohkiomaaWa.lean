/- The statements' own helpers: what toIntS makes (the list, and behind it the spare cells), as one contract. -/
import Derived.Test.YtjpaaihohkiomaaPHx
namespace Go.Proofs.Ytjpaaihohkiomaa.Wr
open Go.RowKit Go.Proofs.YtjpaaihohkiomaaW.PrintWords Go.Proofs.YtjpaaihohkiomaaW.PrintLast Go.Proofs.YtjpaaihohkiomaaW.PrintMore Go.Proofs.Ytjpaaihohkiomaa.PH
set_option linter.unusedVariables false
set_option linter.unusedSimpArgs false

/-- how many spare cells a list of n elements is given -/
def roomN (n : Nat) : Nat := if n % 6 = 5 then 0 else if n % 3 = 0 then 1 else n
theorem roomN_le (n : Nat) : roomN n ≤ n + 1 := by unfold roomN; split; omega; split <;> omega
theorem room_some (n : Nat) : laws_roomBehind.f (n : Int) = some (roomN n : Int) := by
  unfold laws_roomBehind.f roomN
  have h6 : Int.tmod (n : Int) 6 = ((n % 6 : Nat) : Int) := by rw [Int.tmod_eq_emod_of_nonneg (by omega)]; omega
  have h3 : Int.tmod (n : Int) 3 = ((n % 3 : Nat) : Int) := by rw [Int.tmod_eq_emod_of_nonneg (by omega)]; omega
  rw [h6, h3]
  by_cases a : n % 6 = 5
  · rw [if_pos (by omega), if_pos a]; rfl
  · rw [if_neg (by omega), if_neg a]
    by_cases b : n % 3 = 0
    · rw [if_pos (by omega), if_pos b]; rfl
    · rw [if_neg (by omega), if_neg b]
def spareV : Int := -7000000000000000101
/-- what the array that toIntS makes holds, up to its capacity -/
def fullOf (bare : Bool) (l : List Int) : List Int := if bare = true ∧ l = [] then [] else l ++ List.replicate (roomN l.length) spareV
theorem fullOf_false (l : List Int) : fullOf false l = l ++ List.replicate (roomN l.length) spareV := by simp [fullOf]
theorem fullOf_len (bare : Bool) (l : List Int) : l.length ≤ (fullOf bare l).length := by
  unfold fullOf; split
  · rename_i h; rw [h.2]; exact Nat.le_refl _
  · simp
theorem fullOf_take (bare : Bool) (l : List Int) : (fullOf bare l).take l.length = l := by
  unfold fullOf; split
  · rename_i h; rw [h.2]; rfl
  · simp
theorem fullOf_le (bare : Bool) (l : List Int) : (fullOf bare l).length ≤ 2 * l.length + 1 := by
  unfold fullOf; split
  · simp
  · have := roomN_le l.length; simp; omega
theorem rd_nat (l : List Int) (i : Nat) : rd l (i : Int) = l.getD i 0 := rfl
theorem getD_set_self (x : List Int) (i : Nat) (v : Int) (h : i < x.length) : (x.set i v).getD i 0 = v := by
  simp [List.getD_eq_getElem?_getD, List.getElem?_set_self h]
theorem getD_set_ne (x : List Int) (i j : Nat) (v : Int) (h : i ≠ j) : (x.set i v).getD j 0 = x.getD j 0 := by
  simp [List.getD_eq_getElem?_getD, List.getElem?_set_ne h]
theorem ext_getD (x y : List Int) (hl : x.length = y.length) (h : ∀ j, j < x.length → x.getD j 0 = y.getD j 0) : x = y := by
  apply List.ext_getElem hl
  intro i h1 h2
  have := h i h1
  simpa [List.getD_eq_getElem?_getD, List.getElem?_eq_getElem h1, List.getElem?_eq_getElem h2] using this
theorem w64_succ (i n : Nat) (h : i ≤ n) (hn : n ≤ 4000000) : wrap64 ((i : Int) + 1) = ((i + 1 : Nat) : Int) := by unfold wrap64; omega

theorem l1_run (l : List Int) (N : Nat) (hN : N ≤ 4000000) (hn : l.length ≤ N) : ∀ (d k : Nat) (x : List Int) (i : Nat), x.length = N → i + d = N → l.length ≤ i → d < k →
    (∀ j, j < l.length → x.getD j 0 = l.getD j 0) → (∀ j, l.length ≤ j → j < i → x.getD j 0 = spareV) → laws_toIntS.l1 k l x (i : Int) = some (l ++ List.replicate (N - l.length) spareV)
  | d, 0, _, _, _, _, _, h, _, _ => absurd h (Nat.not_lt_zero _)
  | 0, k + 1, x, i, hx, hi, hli, _, h1, h2 => by
    simp only [laws_toIntS.l1]
    rw [if_neg (by omega), if_pos (by omega), if_pos (by omega)]
    congr 1
    apply ext_getD
    · simp; omega
    · intro j hj
      by_cases hjl : j < l.length
      · rw [h1 j hjl]; simp [List.getD_eq_getElem?_getD, List.getElem?_append_left hjl]
      · rw [h2 j (by omega) (by omega)]; simp only [List.getD_eq_getElem?_getD, List.getElem?_append_right (Nat.le_of_not_lt hjl)]; rw [List.getElem?_replicate]; rw [if_pos (by omega)]; rfl
  | d + 1, k + 1, x, i, hx, hi, hli, hk, h1, h2 => by
    simp only [laws_toIntS.l1]
    rw [if_pos (by omega), if_pos (by omega), w64_succ i N (by omega) hN]
    refine l1_run l N hN hn d k _ (i + 1) (by simp [hx]) (by omega) (by omega) (by omega) (fun j hj => ?_) (fun j hj1 hj2 => ?_)
    · rw [show ((i : Int)).toNat = i from by omega, getD_set_ne _ _ _ _ (by omega)]; exact h1 j hj
    · rw [show ((i : Int)).toNat = i from by omega]
      by_cases e : j = i
      · subst e; rw [getD_set_self _ _ _ (by omega)]; rfl
      · rw [getD_set_ne _ _ _ _ (by omega)]; exact h2 j hj1 (by omega)
theorem l0_run (l : List Int) (N : Nat) (hN : N ≤ 4000000) (hn : l.length ≤ N) : ∀ (d k : Nat) (x : List Int) (i : Nat), x.length = N → i + d = l.length → d + N + 1 < k →
    (∀ j, j < i → x.getD j 0 = l.getD j 0) → laws_toIntS.l0 k l x (i : Int) = some (l ++ List.replicate (N - l.length) spareV)
  | d, 0, _, _, _, _, h, _ => absurd h (Nat.not_lt_zero _)
  | 0, k + 1, x, i, hx, hi, hk, h1 => by
    simp only [laws_toIntS.l0]
    rw [if_neg (by omega)]
    exact l1_run l N hN hn (N - l.length) k x l.length hx (by omega) (Nat.le_refl _) (by omega) (fun j hj => h1 j (by omega)) (fun j hj1 hj2 => by omega)
  | d + 1, k + 1, x, i, hx, hi, hk, h1 => by
    simp only [laws_toIntS.l0]
    rw [if_pos (by omega), if_pos (by omega), if_pos (by omega), w64_succ i N (by omega) hN]
    refine l0_run l N hN hn d k _ (i + 1) (by simp [hx]) (by omega) (by omega) (fun j hj => ?_)
    rw [show ((i : Int)).toNat = i from by omega]
    by_cases e : j = i
    · subst e; rw [getD_set_self _ _ _ (by omega)]; rfl
    · rw [getD_set_ne _ _ _ _ (by omega)]; exact h1 j (by omega)
theorem j0_run (l : List Int) (K : Nat) (hl : l.length ≤ 1000000) (hK : l.length + (l.length + roomN l.length) + 1 < K) : laws_toIntS.j0 (K + 1) l false = some (l ++ List.replicate (roomN l.length) spareV) := by
  have hr := roomN_le l.length
  have e : wrap64 ((l.length : Int) + (roomN l.length : Int)) = ((l.length + roomN l.length : Nat) : Int) := by unfold wrap64; omega
  have h1 : (((l.length + roomN l.length : Nat) : Int)).toNat ≤ 35184372088832 := by omega
  have h2 := l0_run l (l.length + roomN l.length) (by omega) (by omega) l.length K (List.replicate (((l.length + roomN l.length : Nat) : Int)).toNat 0) 0 (by rw [List.length_replicate]; omega) (by omega) (by omega) (fun j hj => by omega)
  rw [show l.length + roomN l.length - l.length = roomN l.length from by omega] at h2
  rw [laws_toIntS.j0.eq_2, if_neg (by decide), room_some, Option.bind_some, e, if_pos (by omega), if_pos h1]
  exact h2
theorem toIntS_run (l : List Int) (bare : Bool) (hl : l.length ≤ 1000000) : ∃ k, laws_toIntS.f k l bare = some (fullOf bare l) := by
  obtain ⟨K, hK⟩ : ∃ K, l.length + (l.length + roomN l.length) + 1 < K := ⟨_, Nat.lt_succ_self _⟩
  have h := j0_run l K hl hK
  refine ⟨K + 1, ?_⟩
  unfold laws_toIntS.f
  cases bare with
  | false => rw [if_neg (by decide), fullOf_false]; exact h
  | true =>
    rw [if_pos rfl]
    by_cases hle : l = []
    · subst hle
      simp [laws_toIntS.j0, fullOf]
    · have h0 : ((l.length : Int) == 0) = false := by
        have : l.length ≠ 0 := fun h => hle (List.length_eq_zero_iff.mp h)
        simp; omega
      rw [h0, h]
      simp [fullOf, hle]

/-- toIntS, for every list within the statements' bound. -/
theorem toIntS_r (l : List Int) (bare : Bool) (A0 : Option Addr) (c0 : Nat) (w : World) (hl : l.length ≤ 1000000) (hr : Kd.C (Kd.int .i64) w A0 l.length l) (hc : l.length ≤ c0) :
    Calls Try.prog 23 #[.slice A0 l.length c0, .bool bare] w fun e w' => ∃ (A : Option Addr) (c : Nat), e = .returned (.slice A l.length c) ∧
      Kd.R (Kd.int .i64) 3 w' w.heap.size (fun _ => True) (.slice A (fullOf bare l).length c) (fullOf bare l) ∧ Below w.heap.size w w' := by
  obtain ⟨k, hk⟩ := toIntS_run l bare hl
  refine (laws_toIntS.calls k A0 c0 l bare (fullOf bare l) w hr hc hk).mono ?_
  rintro e w' ⟨v, rfl, h, hb⟩
  rcases h with ⟨rfl, h0⟩ | ⟨A, c, rfl, h⟩
  · have hl0 : l.length = 0 := by have := fullOf_len bare l; rw [h0] at this; simpa using this
    refine ⟨none, 0, by rw [hl0], ?_, hb⟩
    rw [h0]
    exact Kd.R_nil _ _ _ _ _
  · exact ⟨A, c, rfl, h, hb⟩

end Go.Proofs.Ytjpaaihohkiomaa.Wr
