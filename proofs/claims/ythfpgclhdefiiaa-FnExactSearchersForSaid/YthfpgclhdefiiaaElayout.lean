/- Orders of all vertices: both programs tell them alike. -/
import Derived.Test.YthfpgclhdefiiaaEhold
import Derived.Test.YthfpgclhdefiiaaEints
import Derived.Test.YthfpgclhdefiiaaPAx3
import Derived.Test.YthfpgclhdefiiaaPAx9
namespace Go.Proofs.Ythfpgclhdefiiaa.Pure
open Go.RowKit Go.Proofs.YthfpgclhdefiiaaW.PrintWords Go.Proofs.YthfpgclhdefiiaaW.PrintLast Go.Proofs.Ythfpgclhdefiiaa.PA
set_option linter.unusedVariables false
set_option linter.unusedSimpArgs false
/-- the set of a list of vertices -/
def setN (L : List Int) : Nat := orOver L (fun x => 2 ^ x.toNat) 0
theorem setN_bit (L : List Int) (hL : ∀ x ∈ L, 0 ≤ x) (i : Nat) : (setN L).testBit i = decide ((i : Int) ∈ L) := by
  unfold setN
  rw [orOver_bit, Nat.zero_testBit, Bool.false_or, Bool.eq_iff_iff, List.any_eq_true, decide_eq_true_eq]
  constructor
  · rintro ⟨x, hx, hb⟩
    rw [two_bit, decide_eq_true_eq] at hb
    have := hL x hx
    rw [← hb, show ((x.toNat : Nat) : Int) = x from by omega]
    exact hx
  · intro h
    exact ⟨(i : Int), h, by rw [two_bit]; simp⟩
theorem setN_lt (L : List Int) (m : Nat) (hL : ∀ x ∈ L, 0 ≤ x ∧ x < (m : Int)) : setN L < 2 ^ m :=
  orOver_lt _ _ _ _ (Nat.two_pow_pos _) (fun x hx => Nat.pow_lt_pow_right (by decide) (by have := hL x hx; omega))
theorem setN_snoc (L : List Int) (x : Int) : setN (L ++ [x]) = setN L ||| 2 ^ x.toNat := by
  unfold setN orOver; rw [List.foldl_append]; rfl
theorem take_snoc (L : List Int) (i : Nat) (h : i < L.length) : L.take (i + 1) = L.take i ++ [L.getD i 0] := by
  rw [List.take_succ_eq_append_getElem h]; simp [List.getD_eq_getElem?_getD, List.getElem?_eq_getElem h]
/-- as many different things as fit -/
theorem nodup_le {α : Type} [DecidableEq α] : ∀ (L M : List α), L.Nodup → (∀ x ∈ L, x ∈ M) → L.length ≤ M.length
  | [], _, _, _ => Nat.zero_le _
  | x :: L, M, hn, hs => by
    rw [List.nodup_cons] at hn
    have hx : x ∈ M := hs x List.mem_cons_self
    have ih := nodup_le L (M.erase x) hn.2 (fun y hy => (List.mem_erase_of_ne (fun e => hn.1 (by rw [← e]; exact hy))).2 (hs y (List.mem_cons_of_mem _ hy)))
    rw [List.length_erase_of_mem hx] at ih
    have : 0 < M.length := List.length_pos_of_mem hx
    simp only [List.length_cons]; omega
/-- n vertices of n: all are there just if none comes twice -/
theorem all_iff_nodup (n : Nat) (L : List Int) (hl : L.length = n) (hv : ∀ x ∈ L, 0 ≤ x ∧ x < (n : Int)) : (∀ i : Nat, i < n → (i : Int) ∈ L) ↔ L.Nodup := by
  constructor
  · intro hall
    apply Decidable.byContradiction
    intro hn
    have : ∃ x, x ∈ L ∧ x ∈ L.erase x := by
      apply Decidable.byContradiction
      intro hno
      apply hn
      clear hn hall hl hv
      induction L with
      | nil => exact List.nodup_nil
      | cons y L ih =>
        rw [List.nodup_cons]
        refine ⟨fun hy => hno ⟨y, List.mem_cons_self, by rw [List.erase_cons_head]; exact hy⟩, ih (fun ⟨x, h1, h2⟩ => hno ⟨x, List.mem_cons_of_mem _ h1, ?_⟩)⟩
        by_cases e : x = y
        · subst e; rw [List.erase_cons_head]; exact h1
        · rw [List.erase_cons_tail (by simpa using fun h => e h.symm)]; exact List.mem_cons_of_mem _ h2
    obtain ⟨x, hx, hx2⟩ := this
    have := nodup_le (ints n) (L.erase x) (ints_nodup n) (fun y hy => by
      have hy2 := (mem_ints n y).1 hy
      have hyL : y ∈ L := by have := hall y.toNat (by omega); rwa [show ((y.toNat : Nat) : Int) = y from by omega] at this
      by_cases e : y = x
      · subst e; exact hx2
      · exact (List.mem_erase_of_ne e).2 hyL)
    rw [ints_len, List.length_erase_of_mem hx] at this
    have := List.length_pos_of_mem hx
    omega
  · intro hn i hi
    apply Decidable.byContradiction
    intro hno
    have := nodup_le L ((ints n).erase (i : Int)) hn (fun y hy => (List.mem_erase_of_ne (fun e => hno (by rw [← e]; exact hy))).2 ((mem_ints n y).2 (hv y hy)))
    rw [List.length_erase_of_mem ((mem_ints n _).2 (by omega)), ints_len] at this
    omega
theorem nodup_iff_take (L : List Int) : L.Nodup ↔ ∀ j, j < L.length → L.getD j 0 ∉ L.take j := by
  constructor
  · intro h j hj hm
    obtain ⟨i, hi, e⟩ := List.getElem_of_mem hm
    rw [List.length_take] at hi
    rw [List.getElem_take] at e
    have := List.pairwise_iff_getElem.1 h i j (by omega) hj (by omega)
    apply this
    rw [e]; simp [List.getD_eq_getElem?_getD, List.getElem?_eq_getElem hj]
  · intro h
    rw [List.Nodup, List.pairwise_iff_getElem]
    intro i j hi hj hij e
    apply h j hj
    rw [show L.getD j 0 = L[j] from by simp [List.getD_eq_getElem?_getD, List.getElem?_eq_getElem hj], ← e]
    rw [List.mem_take_iff_getElem]
    exact ⟨i, by omega, rfl⟩
/-- an order of all vertices of a valid graph -/
structure LOk (n : Int) (l L : List Int) : Prop where
  g : GOk n l
  len : L.length = l.length
  vs : ∀ x ∈ L, 0 ≤ x ∧ x < n
  nd : L.Nodup
theorem verts_iff (n : Int) (L : List Int) : verts n L = true ↔ ∀ x ∈ L, 0 ≤ x ∧ x < n := by
  unfold verts
  rw [List.all_eq_true]
  exact ⟨fun h x hx => of_decide_eq_true (h x hx), fun h x hx => decide_eq_true (h x hx)⟩
theorem nat_of (x n : Int) (h : 0 ≤ x ∧ x < n) : ∃ v : Nat, x = (v : Int) ∧ (v : Int) < n := ⟨x.toNat, by omega, by omega⟩
open Classical in
theorem layout_spec (n : Int) (l L : List Int) (hL : L.length ≤ 1000000) : Ev (fun k => spec_LayoutOk.f k n l L) (decide (LOk n l L)) := by
  by_cases g : GOk n l
  · have hn := g.len
    have h8 := g.len8
    refine Ev.bind (graph_spec_t g) ?_
    simp only [↓reduceIte]
    by_cases hl : (L.length : Int) = n
    · refine Ev.step (f := fun k => spec_LayoutOk.l0 k 0 L (L.length : Int) 0 n l) (fun k => by rw [spec_LayoutOk.j0.eq_2, if_neg (by simpa using hl)]) ?_
      have mem_of : ∀ i, (∀ j, j < i → (decide (0 ≤ L.getD j 0 ∧ L.getD j 0 < n) && !(setN (L.take j)).testBit (L.getD j 0).toNat) = true) → ∀ x ∈ L.take i, 0 ≤ x ∧ x < n := by
        intro i hj x hx
        obtain ⟨j, hjl, rfl⟩ := List.getElem_of_mem hx
        rw [List.length_take] at hjl
        have := hj j (by omega)
        rw [Bool.and_eq_true, decide_eq_true_eq] at this
        rw [List.getElem_take]
        simpa [List.getD_eq_getElem?_getD, List.getElem?_eq_getElem (show j < L.length by omega)] using this.1
      have key : (∀ j, j < L.length → (decide (0 ≤ L.getD j 0 ∧ L.getD j 0 < n) && !(setN (L.take j)).testBit (L.getD j 0).toNat) = true) ↔ LOk n l L := by
        constructor
        · intro h
          have hv : ∀ x ∈ L, 0 ≤ x ∧ x < n := fun x hx => mem_of L.length h x (by rw [List.take_length]; exact hx)
          refine ⟨g, by omega, hv, (nodup_iff_take L).2 (fun j hj hm => ?_)⟩
          have := h j hj
          rw [Bool.and_eq_true, setN_bit _ (fun x hx => (hv x (List.mem_of_mem_take hx)).1)] at this
          have h0 := hv _ (getD_mem L j hj)
          rw [show (((L.getD j 0).toNat : Nat) : Int) = L.getD j 0 from by omega, decide_eq_true hm] at this
          exact absurd this.2 (by decide)
        · intro h j hj
          have h0 := h.vs _ (getD_mem L j hj)
          rw [Bool.and_eq_true, setN_bit _ (fun x hx => (h.vs x (List.mem_of_mem_take hx)).1)]
          rw [show (((L.getD j 0).toNat : Nat) : Int) = L.getD j 0 from by omega]
          have := (nodup_iff_take L).1 h.nd j hj
          rw [decide_eq_false this, decide_eq_true h0]
          exact ⟨rfl, rfl⟩
      have small : ∀ i, (∀ j, j < i → (decide (0 ≤ L.getD j 0 ∧ L.getD j 0 < n) && !(setN (L.take j)).testBit (L.getD j 0).toNat) = true) → setN (L.take i) < 2 ^ 62 := fun i hj =>
        Nat.lt_of_lt_of_le (setN_lt (L.take i) 8 (fun x hx => by have := mem_of i hj x hx; omega)) (by decide)
      refine Ev_all (fun k i => spec_LayoutOk.l0 k (setN (L.take i) : Int) L (L.length : Int) (i : Int) n l) L.length (fun i => decide (0 ≤ L.getD i 0 ∧ L.getD i 0 < n) && !(setN (L.take i)).testBit (L.getD i 0).toNat) false true _ (fun i k hi hj hp => ?_) (fun i k hi hj hp => ?_) (fun hall => ?_) (fun hno => ?_) L.length 0 (by omega) (fun j hj => by omega)
      · have hs := small i hj
        rw [Bool.and_eq_true, decide_eq_true_eq] at hp
        obtain ⟨h0, h2⟩ := hp
        obtain ⟨v, hv, hvn⟩ := nat_of _ _ h0
        have h2v : (2 : Nat) ^ v < 2 ^ 62 := Nat.pow_lt_pow_right (by decide) (by omega)
        rw [hv, Int.toNat_natCast] at h2
        rw [spec_LayoutOk.l0.eq_2, if_pos (by omega), if_pos (by omega), if_pos (by omega), rd_nat, hv, vert_spec, decide_eq_true (by omega), Option.bind_some, if_pos rfl, has_spec _ v (by omega) (by omega), Option.bind_some, if_neg (by simpa using h2), if_pos (by omega), sShl v (by omega), bOr _ _ (by omega) (by omega), wsucc i (by omega), take_snoc L i hi, setN_snoc, hv, Int.toNat_natCast]
      · have hs := small i hj
        rw [spec_LayoutOk.l0.eq_2, if_pos (by omega), if_pos (by omega), if_pos (by omega), rd_nat, vert_spec, Option.bind_some]
        by_cases h0 : 0 ≤ L.getD i 0 ∧ L.getD i 0 < n
        · obtain ⟨v, hv, hvn⟩ := nat_of _ _ h0
          rw [decide_eq_true h0, if_pos rfl, hv, has_spec _ v (by omega) (by omega), Option.bind_some, if_pos ?_]
          rw [decide_eq_true h0, Bool.true_and, hv, Int.toNat_natCast] at hp
          simpa using hp
        · rw [decide_eq_false h0, if_neg (by simp)]
      · rw [decide_eq_true (key.1 hall)]
        refine Ev.here (fun k => ?_)
        rw [spec_LayoutOk.l0.eq_2, if_neg (by omega)]
      · rw [decide_eq_false (fun h => hno (key.2 h))]
    · rw [decide_eq_false (fun h => hl (by rw [h.len]; exact hn))]
      exact Ev.here (fun k => by rw [spec_LayoutOk.j0.eq_2, if_pos (by simpa using hl)])
  · refine Ev.bind (graph_spec_f g) ?_
    simp only [↓reduceIte, Bool.false_eq_true]
    rw [decide_eq_false (fun h => g h.g)]
    exact Ev.here (fun k => by rw [spec_LayoutOk.j0.eq_2, if_pos rfl])
theorem setN_all (n : Nat) (L : List Int) (hv : ∀ x ∈ L, 0 ≤ x ∧ x < (n : Int)) : setN L = 2 ^ n - 1 ↔ ∀ i : Nat, i < n → (i : Int) ∈ L := by
  have hb := setN_bit L (fun x hx => (hv x hx).1)
  constructor
  · intro e i hi
    have h := hb i
    rw [e, Nat.testBit_two_pow_sub_one, decide_eq_true hi] at h
    exact of_decide_eq_true h.symm
  · intro h
    apply Nat.eq_of_testBit_eq
    intro i
    rw [hb, Nat.testBit_two_pow_sub_one, Bool.eq_iff_iff, decide_eq_true_eq, decide_eq_true_eq]
    exact ⟨fun hm => by have := hv _ hm; omega, h i⟩
open Classical in
theorem layout_impl (n : Int) (l L : List Int) (hL : L.length ≤ 1000000) : Ev (fun k => impl_LayoutOk.f k n l L) (decide (LOk n l L)) := by
  by_cases h : GOk n l ∧ verts n L = true
  · obtain ⟨g, hv⟩ := h
    have hv' := (verts_iff n L).1 hv
    have hn := g.len
    have h8 := g.len8
    refine Ev.bind (hold_t g hv) ?_
    simp only [↓reduceIte]
    by_cases hl : (L.length : Int) = n
    · simp only [hl, ↓reduceIte]
      have hm : ∀ x ∈ L, 0 ≤ x ∧ x < (l.length : Int) := fun x hx => by have := hv' x hx; omega
      have hr := setof_impl L hL (fun x hx => by have := hv' x hx; omega)
      refine Ev.congr (fun k => ?_) (Ev.bind (f := fun _ t => some (t == ((2 ^ l.length : Nat) : Int) - 1)) hr ?_)
      · congr 1; funext t; rw [← hn, all_impl _ _ (by omega), Option.bind_some]
      · have e : (((orOver L (fun x => 2 ^ x.toNat) 0 : Nat) : Int) == ((2 ^ l.length : Nat) : Int) - 1) = decide (LOk n l L) := by
          have h1 : 1 ≤ 2 ^ l.length := Nat.one_le_two_pow
          rw [Bool.eq_iff_iff, decide_eq_true_eq, beq_iff_eq]
          have e2 : orOver L (fun x => 2 ^ x.toNat) 0 = setN L := rfl
          rw [e2]
          have hA := setN_all l.length L hm
          have hB := all_iff_nodup l.length L (by omega) hm
          constructor
          · intro e; exact ⟨g, by omega, hv', hB.1 (hA.1 (by omega))⟩
          · intro h; have := hA.2 (hB.2 h.nd); omega
        rw [← e]
        exact Ev.now _
    · simp only [hl, ↓reduceIte]
      rw [decide_eq_false (fun h => hl (by rw [h.len]; exact hn))]
      exact Ev.now _
  · refine Ev.bind (hold_f h) ?_
    simp only [↓reduceIte, Bool.false_eq_true]
    rw [decide_eq_false (fun hh => h ⟨hh.g, (verts_iff n L).2 hh.vs⟩)]
    exact Ev.now _
end Go.Proofs.Ythfpgclhdefiiaa.Pure
