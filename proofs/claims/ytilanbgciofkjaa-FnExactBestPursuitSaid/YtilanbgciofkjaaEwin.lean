/- The game of one pursuer: within how many moves it catches; what the rounds of the table come to. No program here. -/
import Derived.Test.YtilanbgciofkjaaEtab
namespace Go.Proofs.Ytilanbgciofkjaa.Pure
open Go.RowKit Go.Proofs.YtilanbgciofkjaaW.PrintWords Go.Proofs.YtilanbgciofkjaaW.PrintLast Go.Proofs.Ytilanbgciofkjaa.PA
set_option linter.unusedVariables false
set_option linter.unusedSimpArgs false
/-- the pursuer, to move, catches within k moves -/
def win (l : List Int) : Nat → Nat → Nat → Bool
  | 0, p, f => decide (p = f)
  | k + 1, p, f => win l k p f || (stayL l p).any fun x => decide (x.toNat = f) || (stayL l f).all fun y => win l k x.toNat y.toNat
/-- the same, the fugitive to move -/
def esc (l : List Int) (k x f : Nat) : Bool := decide (x = f) || (stayL l f).all fun y => win l k x y.toNat
theorem win_succ (l : List Int) (k p f : Nat) : win l (k + 1) p f = (win l k p f || (stayL l p).any fun x => esc l k x.toNat f) := rfl
theorem win_mono1 (l : List Int) (k p f : Nat) (h : win l k p f = true) : win l (k + 1) p f = true := by rw [win_succ, h]; rfl
theorem win_mono (l : List Int) (p f : Nat) {k m : Nat} (hm : k ≤ m) (h : win l k p f = true) : win l m p f = true := by
  induction hm with
  | refl => exact h
  | step _ ih => exact win_mono1 l _ p f ih
theorem esc_mono (l : List Int) (x f : Nat) {k m : Nat} (hm : k ≤ m) (h : esc l k x f = true) : esc l m x f = true := by
  unfold esc at *
  rw [Bool.or_eq_true, List.all_eq_true] at *
  exact h.imp id (fun h y hy => win_mono l x _ hm (h y hy))
theorem win_self (l : List Int) (k p : Nat) : win l k p p = true := win_mono l p p (Nat.zero_le k) (by simp [win])
theorem esc_self (l : List Int) (k p : Nat) : esc l k p p = true := by simp [esc]
/-- whoever is not there yet moves -/
theorem win_move (l : List Int) (p f : Nat) (hne : p ≠ f) : ∀ k, win l k p f = true → ∃ x ∈ stayL l p, ∃ j, j < k ∧ esc l j x.toNat f = true
  | 0, h => by simp [win] at h; exact absurd h hne
  | k + 1, h => by
    rw [win_succ, Bool.or_eq_true, List.any_eq_true] at h
    rcases h with h | ⟨x, hx, h⟩
    · obtain ⟨x, hx, j, hj, h⟩ := win_move l p f hne k h
      exact ⟨x, hx, j, by omega, h⟩
    · exact ⟨x, hx, k, by omega, h⟩
theorem win_iff (l : List Int) (p f : Nat) (hne : p ≠ f) (k : Nat) : win l (k + 1) p f = true ↔ ∃ x ∈ stayL l p, esc l k x.toNat f = true := by
  constructor
  · intro h
    obtain ⟨x, hx, j, hj, h⟩ := win_move l p f hne _ h
    exact ⟨x, hx, esc_mono l _ _ (by omega) h⟩
  · rintro ⟨x, hx, h⟩
    rw [win_succ, Bool.or_eq_true, List.any_eq_true]
    exact .inr ⟨x, hx, h⟩
theorem esc_iff (l : List Int) (x f : Nat) (hne : x ≠ f) (k : Nat) : esc l k x f = true ↔ ∀ y ∈ stayL l f, win l k x y.toNat = true := by
  unfold esc
  rw [Bool.or_eq_true, List.all_eq_true, decide_eq_true_eq]
  exact ⟨fun h => h.elim (fun h => absurd h hne) id, .inr⟩

theorem most_le (C : List Int) (p : Nat) (k : Int) : ∀ (L : List Int) (m : Int), L.foldl (mostS C p) m ≤ k ↔ m ≤ k ∧ ∀ x ∈ L, C.getD (8 * p + x.toNat) 0 ≤ k
  | [], m => by simp
  | x :: L, m => by
    rw [List.foldl_cons, most_le C p k L]
    have : mostS C p m x ≤ k ↔ m ≤ k ∧ C.getD (8 * p + x.toNat) 0 ≤ k := by unfold mostS; split <;> omega
    rw [this, and_assoc]
    simp
theorem few_le (E : List Int) (f : Nat) (k : Int) : ∀ (L : List Int) (m : Int), L.foldl (fewS E f) m ≤ k ↔ m ≤ k ∨ ∃ x ∈ L, 1 + E.getD (8 * x.toNat + f) 0 ≤ k
  | [], m => by simp
  | x :: L, m => by
    rw [List.foldl_cons, few_le E f k L]
    have : fewS E f m x ≤ k ↔ m ≤ k ∨ 1 + E.getD (8 * x.toNat + f) 0 ≤ k := by unfold fewS; split <;> omega
    rw [this, or_assoc]
    simp
/-- the numbers tell the game's first r moves -/
def Val (n : Nat) (l : List Int) (r : Nat) (C : List Int) : Prop := InR C ∧ ∀ p f, p < n → f < n → ∀ k : Nat, k < 1000 → (C.getD (8 * p + f) 0 ≤ (k : Int) ↔ win l (min k r) p f = true)
def EVal (n : Nat) (l : List Int) (r : Nat) (E : List Int) : Prop := InR E ∧ ∀ p f, p < n → f < n → ∀ k : Nat, k < 1000 → (E.getD (8 * p + f) 0 ≤ (k : Int) ↔ esc l (min k r) p f = true)
def Diag (E : List Int) : Prop := ∀ p, p < 8 → E.getD (8 * p + p) 0 = 0
theorem Diag.grid {n : Nat} {val : Nat → Nat → Int} {X X1 : List Int} (h : Diag X) (hg : Grid n val X (8 * n) X1) : Diag X1 := fun p hp => by rw [hg.same p p hp hp (.inr (.inr rfl)), h p hp]
theorem Val.stable {n : Nat} {l : List Int} {r : Nat} {C : List Int} (hr : r + 1 < 1000) (hC : Val n l r C) (hC' : Val n l (r + 1) C) (p f : Nat) (hp : p < n) (hf : f < n) (h : win l (r + 1) p f = true) : win l r p f = true := by
  have h1 := (hC'.2 p f hp hf (r + 1) hr).2 (by rw [Nat.min_self]; exact h)
  have h2 := (hC.2 p f hp hf (r + 1) hr).1 h1
  rwa [Nat.min_eq_right (by omega)] at h2
section
variable {n : Nat} {l : List Int} (g : GOk (n : Int) l)
include g
theorem nlen : l.length = n := by have := g.len; omega
theorem stay_vert (v : Nat) (hv : v < n) (x : Int) (hx : x ∈ stayL l v) : x.toNat < n := by
  have e := nlen g
  obtain ⟨u, rfl, hu, _⟩ := stayL_mem g v (by omega) x hx
  rw [Int.toNat_natCast]; omega
theorem Val.start {X Z : List Int} (hZ : Grid n (fun _ _ => 1000) Z (8 * n) X) (hd : Diag Z) : Val n l 0 X := ⟨hZ.1, fun p f hp hf k hk => by
  have h8 := g.len8
  have e := nlen g
  rw [Nat.min_zero]
  by_cases hpf : p = f
  · subst hpf
    rw [(hd.grid hZ) p (by omega)]
    simp [win]
  · rw [hZ.at_ p f (by omega) hp hf hpf]
    simp [win, hpf]; omega⟩
theorem EVal.of {r : Nat} {C E E' : List Int} (hC : Val n l r C) (hd : Diag E) (hE : Grid n (mostF l C) E (8 * n) E') : EVal n l r E' := ⟨hE.1, fun x f hx hf k hk => by
  have h8 := g.len8
  have e := nlen g
  by_cases hxf : x = f
  · subst hxf
    rw [(hd.grid hE) x (by omega)]
    simp [esc_self]
  · rw [hE.at_ x f (by omega) hx hf hxf, mostF, most_le, esc_iff l x f hxf]
    constructor
    · intro h y hy
      exact (hC.2 x y.toNat hx (stay_vert g f hf y hy) k hk).1 (h.2 y hy)
    · intro h
      exact ⟨by omega, fun y hy => (hC.2 x y.toNat hx (stay_vert g f hf y hy) k hk).2 (h y hy)⟩⟩
theorem Val.step {r : Nat} {C E' C' : List Int} (hC : Val n l r C) (hdC : Diag C) (hE : EVal n l r E') (hG : Grid n (fewF l E') C (8 * n) C') : Val n l (r + 1) C' := ⟨hG.1, fun p f hp hf k hk => by
  have h8 := g.len8
  have e := nlen g
  by_cases hpf : p = f
  · subst hpf
    rw [(hdC.grid hG) p (by omega)]
    simp [win_self]
  · rw [hG.at_ p f (by omega) hp hf hpf, fewF, few_le]
    rcases k with _ | k
    · rw [Nat.zero_min]
      simp only [win, decide_eq_true_eq]
      constructor
      · rintro (h | ⟨x, hx, h⟩)
        · exact absurd h (by decide)
        · have := hE.1.2 (8 * x.toNat + f) (by have := stay_vert g p hp x hx; omega)
          omega
      · intro h; exact absurd h hpf
    · rw [show min (k + 1) (r + 1) = min k r + 1 from by omega, win_iff l p f hpf]
      constructor
      · rintro (h | ⟨x, hx, h⟩)
        · exfalso; omega
        · exact ⟨x, hx, (hE.2 x.toNat f (stay_vert g p hp x hx) hf k (by omega)).1 (by omega)⟩
      · rintro ⟨x, hx, h⟩
        have := (hE.2 x.toNat f (stay_vert g p hp x hx) hf k (by omega)).2 h
        exact .inr ⟨x, hx, by omega⟩⟩
/-- numbers in range that have the same thresholds are equal -/
theorem Val.same {r : Nat} {C C' : List Int} (hC : Val n l r C) (hC' : Val n l (r + 1) C') (p f : Nat) (hp : p < n) (hf : f < n) (hw : win l (r + 1) p f = true → win l r p f = true) : C'.getD (8 * p + f) 0 = C.getD (8 * p + f) 0 := by
  have h8 := g.len8
  have e := nlen g
  have i1 := hC.1.2 (8 * p + f) (by omega)
  have i2 := hC'.1.2 (8 * p + f) (by omega)
  have key : ∀ k : Nat, k < 1000 → (C'.getD (8 * p + f) 0 ≤ (k : Int) ↔ C.getD (8 * p + f) 0 ≤ (k : Int)) := by
    intro k hk
    rw [hC.2 p f hp hf k hk, hC'.2 p f hp hf k hk]
    by_cases h : k ≤ r
    · rw [Nat.min_eq_left h, Nat.min_eq_left (by omega)]
    · rw [Nat.min_eq_right (by omega), Nat.min_eq_right (by omega)]
      exact ⟨hw, win_mono1 l r p f⟩
  apply Int.le_antisymm
  · by_cases h : C.getD (8 * p + f) 0 < 1000
    · have := (key (C.getD (8 * p + f) 0).toNat (by omega)).2 (by omega)
      omega
    · omega
  · by_cases h : C'.getD (8 * p + f) 0 < 1000
    · have := (key (C'.getD (8 * p + f) 0).toNat (by omega)).1 (by omega)
      omega
    · omega
/-- once nothing new comes, nothing ever comes -/
theorem win_stop {r : Nat} (hs : ∀ p f, p < n → f < n → win l (r + 1) p f = true → win l r p f = true) : ∀ (d p f : Nat), p < n → f < n → win l (r + d) p f = true → win l r p f = true
  | 0, p, f, hp, hf, h => h
  | d + 1, p, f, hp, hf, h => by
    by_cases hpf : p = f
    · subst hpf; exact win_self l r p
    · apply hs p f hp hf
      rw [show r + (d + 1) = (r + d) + 1 from rfl, win_iff l p f hpf] at h
      rw [win_iff l p f hpf]
      obtain ⟨x, hx, h⟩ := h
      refine ⟨x, hx, ?_⟩
      have hxn := stay_vert g p hp x hx
      by_cases hxf : x.toNat = f
      · rw [hxf]; exact esc_self l r f
      · rw [esc_iff l _ f hxf] at h ⊢
        exact fun y hy => win_stop hs d x.toNat y.toNat hxn (stay_vert g f hf y hy) (h y hy)
theorem win_min {r : Nat} (hs : ∀ p f, p < n → f < n → win l (r + 1) p f = true → win l r p f = true) (k p f : Nat) (hp : p < n) (hf : f < n) : win l (min k r) p f = win l k p f := by
  by_cases h : k ≤ r
  · rw [Nat.min_eq_left h]
  · rw [Nat.min_eq_right (by omega), Bool.eq_iff_iff]
    exact ⟨win_mono l p f (by omega), fun hk => win_stop g hs (k - r) p f hp hf (by rw [show r + (k - r) = k from by omega]; exact hk)⟩
theorem esc_min {r : Nat} (hs : ∀ p f, p < n → f < n → win l (r + 1) p f = true → win l r p f = true) (k p f : Nat) (hp : p < n) (hf : f < n) : esc l (min k r) p f = esc l k p f := by
  rw [Bool.eq_iff_iff]
  by_cases hpf : p = f
  · subst hpf; simp [esc_self]
  · rw [esc_iff l p f hpf, esc_iff l p f hpf]
    exact ⟨fun h y hy => by rw [← win_min g hs k p _ hp (stay_vert g f hf y hy)]; exact h y hy, fun h y hy => by rw [win_min g hs k p _ hp (stay_vert g f hf y hy)]; exact h y hy⟩
end
/-- how many pairs of vertices are won within k moves -/
def cnt (n : Nat) (l : List Int) (k : Nat) : Nat := (List.range 64).countP fun i => decide (i / 8 < n ∧ i % 8 < n) && win l k (i / 8) (i % 8)
theorem cnt_le (n : Nat) (l : List Int) (k : Nat) : cnt n l k ≤ 64 := by
  have := List.countP_le_length (p := fun i => decide (i / 8 < n ∧ i % 8 < n) && win l k (i / 8) (i % 8)) (l := List.range 64)
  simpa [cnt] using this
theorem countP_lt {α : Type} (P Q : α → Bool) : ∀ (L : List α), (∀ x ∈ L, P x = true → Q x = true) → (∃ x ∈ L, P x = false ∧ Q x = true) → L.countP P + 1 ≤ L.countP Q
  | [], _, h => by obtain ⟨x, hx, _⟩ := h; cases hx
  | a :: L, hm, h => by
    rw [List.countP_cons, List.countP_cons]
    have hle : L.countP P ≤ L.countP Q := List.countP_mono_left (fun x hx => hm x (List.mem_cons_of_mem _ hx))
    by_cases hz : ∃ x ∈ L, P x = false ∧ Q x = true
    · have := countP_lt P Q L (fun x hx => hm x (List.mem_cons_of_mem _ hx)) hz
      have ha := hm a List.mem_cons_self
      cases hp : P a <;> cases hq : Q a <;> simp_all <;> omega
    · obtain ⟨x, hx, h1, h2⟩ := h
      rcases List.mem_cons.1 hx with rfl | hx
      · simp [h1, h2]; omega
      · exact absurd ⟨x, hx, h1, h2⟩ hz
theorem cnt_step (n : Nat) (l : List Int) (h8 : n ≤ 8) (k p f : Nat) (hp : p < n) (hf : f < n) (h0 : win l k p f = false) (h1 : win l (k + 1) p f = true) : cnt n l k + 1 ≤ cnt n l (k + 1) := by
  refine countP_lt _ _ _ (fun i _ h => ?_) ⟨8 * p + f, List.mem_range.2 (by omega), ?_, ?_⟩
  · rw [Bool.and_eq_true] at h ⊢
    exact ⟨h.1, win_mono1 l k _ _ h.2⟩
  · rw [show (8 * p + f) / 8 = p from by omega, show (8 * p + f) % 8 = f from by omega, h0]; simp
  · rw [show (8 * p + f) / 8 = p from by omega, show (8 * p + f) % 8 = f from by omega, h1]; simp; omega
/-- a round that changes something wins a new pair -/
theorem Val.change {n : Nat} {l : List Int} (g : GOk (n : Int) l) {r : Nat} {C C' : List Int} {val : Nat → Nat → Int} (hC : Val n l r C) (hC' : Val n l (r + 1) C') (hG : Grid n val C (8 * n) C') (hne : C' ≠ C) : cnt n l r + 1 ≤ cnt n l (r + 1) := by
  have h8 : n ≤ 8 := by have := g.len8; have := nlen g; omega
  apply Decidable.byContradiction
  intro hno
  apply hne
  apply List.ext_getElem (by rw [hC.1.1, hC'.1.1])
  intro i h1 h2
  have hi : i < 64 := by rw [hC'.1.1] at h1; exact h1
  have e : C'.getD i 0 = C.getD i 0 := by
    by_cases hin : i / 8 < n ∧ i % 8 < n
    · have := Val.same g hC hC' (i / 8) (i % 8) hin.1 hin.2 (fun hw => by
        cases h0 : win l r (i / 8) (i % 8) with
        | true => rfl
        | false => exact absurd (cnt_step n l h8 r _ _ hin.1 hin.2 h0 hw) hno)
      rwa [show 8 * (i / 8) + i % 8 = i from by omega] at this
    · have := hG.same (i / 8) (i % 8) (by omega) (by omega) (by omega)
      rwa [show 8 * (i / 8) + i % 8 = i from by omega] at this
  simpa [List.getD_eq_getElem?_getD, List.getElem?_eq_getElem, h1, h2] using e
/-- the table as it stands when the rounds have come to their end -/
structure TabFin (n : Nat) (l C E : List Int) : Prop where
  inC : InR C
  inE : InR E
  ch : ∀ p f, p < n → f < n → ∀ k : Nat, k < 1000 → (C.getD (8 * p + f) 0 ≤ (k : Int) ↔ win l k p f = true)
  es : ∀ p f, p < n → f < n → ∀ k : Nat, k < 1000 → (E.getD (8 * p + f) 0 ≤ (k : Int) ↔ esc l k p f = true)
  few : ∀ p f, p < n → f < n → win l 1000 p f = true → C.getD (8 * p + f) 0 ≤ 64
theorem TabFin.of {n : Nat} {l : List Int} (g : GOk (n : Int) l) {r : Nat} {C E E' : List Int} (hr : r ≤ 64) (hC : Val n l r C) (hC' : Val n l (r + 1) C) (hd : Diag E) (hE : Grid n (mostF l C) E (8 * n) E') : TabFin n l C E' := by
  have hs : ∀ p f, p < n → f < n → win l (r + 1) p f = true → win l r p f = true := fun p f hp hf h => Val.stable (by omega) hC hC' p f hp hf h
  have hEV := EVal.of g hC hd hE
  refine ⟨hC.1, hE.1, fun p f hp hf k hk => ?_, fun p f hp hf k hk => ?_, fun p f hp hf h => ?_⟩
  · rw [hC.2 p f hp hf k hk, win_min g hs k p f hp hf]
  · rw [hEV.2 p f hp hf k hk, esc_min g hs k p f hp hf]
  · rw [← win_min g hs 1000 p f hp hf, Nat.min_eq_right (by omega)] at h
    have := (hC.2 p f hp hf 64 (by omega)).2 (by rw [Nat.min_eq_right (by omega)]; exact h)
    exact this
end Go.Proofs.Ytilanbgciofkjaa.Pure
