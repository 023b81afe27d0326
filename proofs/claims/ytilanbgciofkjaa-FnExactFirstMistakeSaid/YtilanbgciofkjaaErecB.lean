/- Records: what both programs take for one. -/
import Derived.Test.YtilanbgciofkjaaMb
import Derived.Test.YtilanbgciofkjaaPAx17
import Derived.Test.YtilanbgciofkjaaPAx18
import Derived.Test.YtilanbgciofkjaaPAx20
import Derived.Test.YtilanbgciofkjaaPAx21
namespace Go.Proofs.Ytilanbgciofkjaa.Pure
open Go.RowKit Go.Proofs.YtilanbgciofkjaaW.PrintWords Go.Proofs.YtilanbgciofkjaaW.PrintLast Go.Proofs.Ytilanbgciofkjaa.PA
set_option linter.unusedVariables false
set_option linter.unusedSimpArgs false
theorem Ev_all2 (G : Nat → Nat → Option Bool) (m : Nat) (p : Nat → Bool) (hs : ∀ i r, i < m → (∀ j, j < i → p j = true) → p i = true → Ev (fun k => G k (i + 1)) r → Ev (fun k => G k i) r) (hx : ∀ i, i < m → (∀ j, j < i → p j = true) → p i = false → Ev (fun k => G k i) false)
    (he : Ev (fun k => G k m) true) (b : Bool) (hb : b = true ↔ ∀ j, j < m → p j = true) : ∀ d i, i + d = m → (∀ j, j < i → p j = true) → Ev (fun k => G k i) b
  | 0, i, hi, hj => by
    obtain rfl : i = m := by omega
    rw [hb.2 hj]; exact he
  | d + 1, i, hi, hj => by
    cases hp : p i with
    | true => exact hs i b (by omega) hj hp (Ev_all2 G m p hs hx he b hb d (i + 1) (by omega) (fun j h => if e : j = i then e ▸ hp else hj j (by omega)))
    | false =>
      have : b = false := by
        cases hbb : b with
        | false => rfl
        | true => have := (hb.1 hbb) i (by omega); rw [hp] at this; cases this
      rw [this]; exact hx i (by omega) hj hp
/-- a player can go from a to b, or stay -/
def stepP (n : Int) (l : List Int) (a b : Int) : Bool := decide (0 ≤ a ∧ a < n) && (decide (0 ≤ b ∧ b < n) && (decide (a = b) || (row l a.toNat).testBit b.toNat))
theorem step_spec {n : Int} {l : List Int} (g : GOk n l) (a b : Int) : spec_l07Step.f n l a b = some (stepP n l a b) := by
  have hn := g.len
  have h8 := g.len8
  unfold spec_l07Step.f stepP
  rw [vert_spec, Option.bind_some]
  by_cases ha : 0 ≤ a ∧ a < n
  · rw [decide_eq_true ha, if_pos rfl, vert_spec, Option.bind_some]
    by_cases hb : 0 ≤ b ∧ b < n
    · rw [decide_eq_true hb, if_pos rfl]
      by_cases e : a = b
      · rw [if_pos e, decide_eq_true e]; rfl
      · obtain ⟨v, rfl, hv⟩ : ∃ v : Nat, a = (v : Int) ∧ (v : Int) < n := ⟨a.toNat, by omega, by omega⟩
        obtain ⟨w, rfl, hw⟩ : ∃ w : Nat, b = (w : Int) ∧ (w : Int) < n := ⟨b.toNat, by omega, by omega⟩
        have h1 := g.row_lt8 v (by omega)
        rw [if_neg e, if_pos (by omega), if_pos (by omega), rd_nat, g.row_eq v (by omega), has_spec _ w (by omega) (by omega), Option.bind_some, decide_eq_false e, Int.toNat_natCast, Int.toNat_natCast]
        rfl
    · rw [decide_eq_false hb, if_neg (by simp)]; simp
  · rw [decide_eq_false ha, if_neg (by simp)]; simp
/-- the reference's test of the turn i -/
def turnS (n : Int) (l P F : List Int) (i : Nat) : Bool := (stepP n l (P.getD i 0) (P.getD (i + 1) 0) && stepP n l (F.getD i 0) (F.getD (i + 1) 0)) && (!(decide (P.getD (i + 1) 0 = F.getD i 0) && (decide (F.getD (i + 1) 0 ≠ F.getD i 0) || decide (i + 1 < P.length - 1))) && !(decide (P.getD (i + 1) 0 = F.getD (i + 1) 0) && decide (i + 1 < P.length - 1)))
theorem rec_spec_l0 {n : Int} {l : List Int} (g : GOk n l) (P F : List Int) (h60 : P.length ≤ 60) (hl : F.length = P.length) (i : Nat) (hi : i + 1 < P.length) :
    (turnS n l P F i = true → ∀ r, Ev (fun k => spec_RecordOk.l0 k (P.length : Int) ((i + 1 + 1 : Nat) : Int) n l P F) r → Ev (fun k => spec_RecordOk.l0 k (P.length : Int) ((i + 1 : Nat) : Int) n l P F) r) ∧
    (turnS n l P F i = false → Ev (fun k => spec_RecordOk.l0 k (P.length : Int) ((i + 1 : Nat) : Int) n l P F) false) := by
  have e1 : wrap64 (((i + 1 : Nat) : Int) - 1) = (i : Int) := by unfold wrap64; omega
  have e2 : wrap64 ((P.length : Int) - 1) = ((P.length - 1 : Nat) : Int) := by unfold wrap64; omega
  have h0 : ∀ k, spec_RecordOk.l0 (k + 1) (P.length : Int) ((i + 1 : Nat) : Int) n l P F = spec_RecordOk.j3 k (P.length : Int) ((i + 1 : Nat) : Int) (!(stepP n l (P.getD i 0) (P.getD (i + 1) 0) && stepP n l (F.getD i 0) (F.getD (i + 1) 0))) n l P F := by
    intro k
    rw [spec_RecordOk.l0.eq_2, if_pos (by omega), e1, if_pos (by omega), if_pos (by omega), if_pos (by omega), if_pos (by omega), rd_nat, rd_nat, step_spec g, Option.bind_some]
    cases stepP n l (P.getD i 0) (P.getD (i + 1) 0) with
    | true => rw [if_pos rfl, if_pos (by omega), if_pos (by omega), rd_nat, rd_nat, step_spec g, Option.bind_some]; rfl
    | false => rw [if_neg (by simp)]; rfl
  have h3 : ∀ k, spec_RecordOk.j3 (k + 1) (P.length : Int) ((i + 1 : Nat) : Int) false n l P F = spec_RecordOk.j4 k (P.length : Int) ((i + 1 : Nat) : Int) (decide (P.getD (i + 1) 0 = F.getD i 0) && (decide (F.getD (i + 1) 0 ≠ F.getD i 0) || decide (i + 1 < P.length - 1))) n l P F := by
    intro k
    rw [spec_RecordOk.j3.eq_2, if_neg (by simp), if_pos (by omega), if_pos (by omega), e1, if_pos (by omega), if_pos (by omega), rd_nat, rd_nat]
    by_cases ea : P.getD (i + 1) 0 = F.getD i 0
    · rw [if_pos ea, decide_eq_true ea, Bool.true_and, if_pos (by omega), rd_nat]
      by_cases eb : F.getD (i + 1) 0 = F.getD i 0
      · have hne : decide (F.getD (i + 1) 0 ≠ F.getD i 0) = false := decide_eq_false (fun h => h eb)
        rw [if_pos eb, hne, Bool.false_or, e2]
        congr 1
        rw [Bool.eq_iff_iff, decide_eq_true_eq, decide_eq_true_eq]; omega
      · rw [if_neg eb, decide_eq_true eb]; rfl
    · rw [if_neg ea, decide_eq_false ea]; rfl
  have h4 : ∀ k, spec_RecordOk.j4 (k + 1) (P.length : Int) ((i + 1 : Nat) : Int) false n l P F = if (decide (P.getD (i + 1) 0 = F.getD (i + 1) 0) && decide (i + 1 < P.length - 1)) = true then some false else spec_RecordOk.l0 k (P.length : Int) ((i + 1 + 1 : Nat) : Int) n l P F := by
    intro k
    have ew : wrap64 (((i + 1 : Nat) : Int) + 1) = ((i + 1 + 1 : Nat) : Int) := wsucc (i + 1) (by omega)
    rw [spec_RecordOk.j4.eq_2, if_neg (by simp), if_pos (by omega), if_pos (by omega), if_pos (by omega), rd_nat, rd_nat, e2, ew]
    by_cases ea : P.getD (i + 1) 0 = F.getD (i + 1) 0
    · rw [if_pos ea, decide_eq_true ea, Bool.true_and]
      by_cases eb : i + 1 < P.length - 1
      · rw [if_pos (by omega), decide_eq_true eb, if_pos rfl]
      · rw [if_neg (by omega), decide_eq_false eb, if_neg (by simp)]
    · rw [if_neg ea, decide_eq_false ea, if_neg (by simp)]
  have h3t : ∀ k, spec_RecordOk.j3 (k + 1) (P.length : Int) ((i + 1 : Nat) : Int) true n l P F = some false := fun k => by rw [spec_RecordOk.j3.eq_2, if_pos rfl]
  have h4t : ∀ k, spec_RecordOk.j4 (k + 1) (P.length : Int) ((i + 1 : Nat) : Int) true n l P F = some false := fun k => by rw [spec_RecordOk.j4.eq_2, if_pos rfl]
  unfold turnS
  generalize (stepP n l (P.getD i 0) (P.getD (i + 1) 0) && stepP n l (F.getD i 0) (F.getD (i + 1) 0)) = a at h0 ⊢
  generalize (decide (P.getD (i + 1) 0 = F.getD i 0) && (decide (F.getD (i + 1) 0 ≠ F.getD i 0) || decide (i + 1 < P.length - 1))) = b at h3 ⊢
  generalize (decide (P.getD (i + 1) 0 = F.getD (i + 1) 0) && decide (i + 1 < P.length - 1)) = c at h4 ⊢
  cases a with
  | false => exact ⟨fun h => (by cases h), fun _ => Ev.step h0 (Ev.here h3t)⟩
  | true =>
    cases b with
    | true => exact ⟨fun h => (by cases h), fun _ => Ev.step h0 (Ev.step h3 (Ev.here h4t))⟩
    | false =>
      cases c with
      | true => exact ⟨fun h => (by cases h), fun _ => Ev.step h0 (Ev.step h3 (Ev.here (fun k => by rw [h4, if_pos rfl])))⟩
      | false => exact ⟨fun _ r hr => Ev.step h0 (Ev.step h3 (Ev.step (fun k => by rw [h4, if_neg (by simp)]) hr)), fun h => by cases h⟩
/-- the program's test of the turn i -/
def turnI (l P F : List Int) (i : Nat) : Bool := decide (P.getD i 0 ≠ F.getD i 0) && ((stayN l (P.getD i 0).toNat).testBit (P.getD (i + 1) 0).toNat && ((stayN l (F.getD i 0).toNat).testBit (F.getD (i + 1) 0).toNat && (decide (P.getD (i + 1) 0 ≠ F.getD i 0) || decide (F.getD (i + 1) 0 = F.getD i 0))))
theorem turn_impl {n : Int} {l : List Int} (g : GOk n l) (p f p2 f2 : Nat) (hp : p < l.length) (hf : f < l.length) (hp2 : p2 < l.length) (hf2 : f2 < l.length) : impl_Graph_isTurn.f n l (p : Int) (f : Int) (p2 : Int) (f2 : Int) = some (decide ((p : Int) ≠ f) && ((stayN l p).testBit p2 && ((stayN l f).testBit f2 && (decide ((p2 : Int) ≠ f) || decide ((f2 : Int) = f))))) := by
  have h8 := g.len8
  have p8 := pow8 _ h8
  have s1 := stayN_lt g p hp
  have s2 := stayN_lt g f hf
  unfold impl_Graph_isTurn.f
  by_cases e : (p : Int) = f
  · rw [if_pos e, decide_eq_false (by simpa using e)]; rfl
  · rw [if_neg e, decide_eq_true e, stayN_impl g p hp, Option.bind_some, has_impl _ p2 (by omega) (by omega), Option.bind_some, Bool.true_and]
    cases (stayN l p).testBit p2 with
    | false => rw [if_neg (by simp)]; rfl
    | true =>
      rw [if_pos rfl, stayN_impl g f hf, Option.bind_some, has_impl _ f2 (by omega) (by omega), Option.bind_some, Bool.true_and]
      cases (stayN l f).testBit f2 with
      | false => rw [if_neg (by simp)]; rfl
      | true =>
        rw [if_pos rfl, Bool.true_and]
        by_cases e2 : (p2 : Int) = f
        · rw [if_pos e2, decide_eq_false (by simpa using e2), Bool.false_or]; congr 1
        · rw [if_neg e2, decide_eq_true e2]; rfl
structure ROk (n : Int) (l P F : List Int) : Prop where
  g : GOk n l
  one : 1 ≤ P.length
  most : P.length ≤ 60
  len : F.length = P.length
  p : ∀ i, i < P.length → 0 ≤ P.getD i 0 ∧ P.getD i 0 < n
  f : ∀ i, i < P.length → 0 ≤ F.getD i 0 ∧ F.getD i 0 < n
  turns : ∀ i, i + 1 < P.length → turnI l P F i = true
theorem step_stay {n : Int} {l : List Int} (a b : Int) (ha : 0 ≤ a ∧ a < n) (hb : 0 ≤ b ∧ b < n) : stepP n l a b = (stayN l a.toNat).testBit b.toNat := by
  unfold stepP stayN
  rw [decide_eq_true ha, decide_eq_true hb, Bool.true_and, Bool.true_and, Nat.testBit_or, two_bit, Bool.or_comm]
  congr 1
  rw [Bool.eq_iff_iff, decide_eq_true_eq, decide_eq_true_eq]; omega
theorem step_vs {n : Int} {l : List Int} {a b : Int} (h : stepP n l a b = true) : (0 ≤ a ∧ a < n) ∧ (0 ≤ b ∧ b < n) := by
  unfold stepP at h
  rw [Bool.and_eq_true, Bool.and_eq_true, decide_eq_true_eq, decide_eq_true_eq] at h
  exact ⟨h.1, h.2.1⟩
theorem rok_iff {n : Int} {l P F : List Int} (g : GOk n l) (h1 : 1 ≤ P.length) (h60 : P.length ≤ 60) (hl : F.length = P.length) :
    ROk n l P F ↔ ((0 ≤ P.getD 0 0 ∧ P.getD 0 0 < n) ∧ (0 ≤ F.getD 0 0 ∧ F.getD 0 0 < n) ∧ ¬ (P.getD 0 0 = F.getD 0 0 ∧ 1 < P.length) ∧ ∀ i, i < P.length - 1 → turnS n l P F i = true) := by
  constructor
  · intro h
    have ne : ∀ i, i + 1 < P.length → P.getD i 0 ≠ F.getD i 0 := fun i hi => by
      have := h.turns i hi
      unfold turnI at this
      rw [Bool.and_eq_true, decide_eq_true_eq] at this
      exact this.1
    refine ⟨h.p 0 (by omega), h.f 0 (by omega), fun ⟨e, e2⟩ => ne 0 (by omega) e, fun i hi => ?_⟩
    have ht := h.turns i (by omega)
    unfold turnI at ht
    rw [Bool.and_eq_true, Bool.and_eq_true, Bool.and_eq_true, Bool.or_eq_true, decide_eq_true_eq, decide_eq_true_eq, decide_eq_true_eq] at ht
    obtain ⟨t1, t2, t3, t4⟩ := ht
    unfold turnS
    rw [step_stay _ _ (h.p i (by omega)) (h.p (i + 1) (by omega)), step_stay _ _ (h.f i (by omega)) (h.f (i + 1) (by omega)), t2, t3]
    have hlast : i + 1 < P.length - 1 → P.getD (i + 1) 0 ≠ F.getD (i + 1) 0 := fun hh => ne (i + 1) (by omega)
    simp only [Bool.and_self, Bool.true_and, Bool.and_eq_true, Bool.not_eq_true', Bool.and_eq_false_iff, Bool.or_eq_false_iff, decide_eq_false_iff_not]
    refine ⟨?_, ?_⟩
    · by_cases e : P.getD (i + 1) 0 = F.getD i 0
      · rcases t4 with t4 | t4
        · exact absurd e t4
        · refine Or.inr ⟨fun hne => hne t4, fun hh => hlast hh (by rw [e, t4])⟩
      · exact Or.inl e
    · by_cases e : i + 1 < P.length - 1
      · exact Or.inl (hlast e)
      · exact Or.inr e
  · rintro ⟨hp0, hf0, hne, hts⟩
    have parts : ∀ i, i < P.length - 1 → stepP n l (P.getD i 0) (P.getD (i + 1) 0) = true ∧ stepP n l (F.getD i 0) (F.getD (i + 1) 0) = true ∧ (P.getD (i + 1) 0 = F.getD i 0 → F.getD (i + 1) 0 = F.getD i 0) ∧ (i + 1 < P.length - 1 → P.getD (i + 1) 0 ≠ F.getD (i + 1) 0) := fun i hi => by
      have h := hts i hi
      unfold turnS at h
      simp only [Bool.and_eq_true, Bool.not_eq_true', Bool.and_eq_false_iff, Bool.or_eq_false_iff, decide_eq_false_iff_not] at h
      obtain ⟨⟨a, b⟩, c, d⟩ := h
      refine ⟨a, b, fun e => ?_, fun hh => ?_⟩
      · rcases c with c | c
        · exact absurd e c
        · exact Decidable.byContradiction (fun hn => c.1 hn)
      · rcases d with d | d
        · exact d
        · exact absurd hh d
    have hv : ∀ i, i < P.length → (0 ≤ P.getD i 0 ∧ P.getD i 0 < n) ∧ (0 ≤ F.getD i 0 ∧ F.getD i 0 < n) := fun i hi => by
      cases i with
      | zero => exact ⟨hp0, hf0⟩
      | succ i =>
        have := parts i (by omega)
        exact ⟨(step_vs this.1).2, (step_vs this.2.1).2⟩
    refine ⟨g, h1, h60, hl, fun i hi => (hv i hi).1, fun i hi => (hv i hi).2, fun i hi => ?_⟩
    have := parts i (by omega)
    have hni : P.getD i 0 ≠ F.getD i 0 := by
      cases i with
      | zero => exact fun e => hne ⟨e, by omega⟩
      | succ i => exact (parts i (by omega)).2.2.2 (by omega)
    unfold turnI
    rw [← step_stay (n := n) _ _ (hv i (by omega)).1 (hv (i + 1) (by omega)).1, ← step_stay (n := n) _ _ (hv i (by omega)).2 (hv (i + 1) (by omega)).2, this.1, this.2.1, decide_eq_true hni]
    by_cases e : P.getD (i + 1) 0 = F.getD i 0
    · rw [this.2.2.1 e]; simp
    · rw [decide_eq_true e]; rfl
open Classical in
theorem rec_spec (n : Int) (l P F : List Int) (hL : P.length ≤ 1000000) : Ev (fun k => spec_RecordOk.f k n l P F) (decide (ROk n l P F)) := by
  have jt : Ev (fun k => spec_RecordOk.j0 k (P.length : Int) true n l P F) false := Ev.here (fun k => by rw [spec_RecordOk.j0.eq_2, if_pos rfl])
  by_cases g : GOk n l
  · have hn := g.len
    refine Ev.bind (graph_spec_t g) ?_
    simp only [↓reduceIte, in_spec, Option.bind_some, vert_spec]
    by_cases h1 : 1 ≤ P.length ∧ P.length ≤ 60
    · simp only [show ((1 : Int) ≤ (P.length : Int) ∧ (P.length : Int) ≤ 60) from by omega, and_self, decide_true, ↓reduceIte]
      by_cases hl : F.length = P.length
      · simp only [show ((F.length : Int) = (P.length : Int)) from by omega, show (0 : Int) < (P.length : Int) from by omega, ↓reduceIte]
        have hiff := rok_iff (P := P) (F := F) g h1.1 h1.2 hl
        have e0 : rd P 0 = P.getD 0 0 := rfl
        have e1 : rd F 0 = F.getD 0 0 := rfl
        rw [e0, e1]
        by_cases hp : 0 ≤ P.getD 0 0 ∧ P.getD 0 0 < n
        · by_cases hf : 0 ≤ F.getD 0 0 ∧ F.getD 0 0 < n
          · simp only [decide_eq_true hp, decide_eq_true hf, ↓reduceIte, Bool.not_true]
            by_cases hc : P.getD 0 0 = F.getD 0 0 ∧ 1 < P.length
            · rw [decide_eq_false (fun h => (hiff.1 h).2.2.1 hc)]
              refine Ev.step (f := fun k => spec_RecordOk.j1 k (P.length : Int) true n l P F) (fun k => ?_) (Ev.here (fun k => by rw [spec_RecordOk.j1.eq_2, if_pos rfl]))
              rw [spec_RecordOk.j0.eq_2, if_neg (by simp), if_pos (by omega), if_pos (by omega), e0, e1, if_pos hc.1, decide_eq_true (by omega)]
            · refine Ev.step (f := fun k => spec_RecordOk.j1 k (P.length : Int) false n l P F) (fun k => ?_) (Ev.step (fun k => by rw [spec_RecordOk.j1.eq_2, if_neg (by simp)]; rfl) (Ev_all2 (fun k i => spec_RecordOk.l0 k (P.length : Int) ((i + 1 : Nat) : Int) n l P F) (P.length - 1) (turnS n l P F) (fun i r hi _ hp2 hr => (rec_spec_l0 g P F h1.2 hl i (by omega)).1 hp2 r hr) (fun i hi _ hp2 => (rec_spec_l0 g P F h1.2 hl i (by omega)).2 hp2) (Ev.here (fun k => ?_)) _ ?_ (P.length - 1) 0 (by omega) (fun j hj => by omega)))
              · rw [spec_RecordOk.j0.eq_2, if_neg (by simp), if_pos (by omega), if_pos (by omega), e0, e1]
                by_cases ec : P.getD 0 0 = F.getD 0 0
                · rw [if_pos ec, decide_eq_false (fun hh => hc ⟨ec, by omega⟩)]
                · rw [if_neg ec]
              · rw [spec_RecordOk.l0.eq_2, if_neg (by omega)]
              · rw [decide_eq_true_eq, hiff]
                exact ⟨fun h => h.2.2.2, fun h => ⟨hp, hf, hc, h⟩⟩
          · simp only [decide_eq_true hp, decide_eq_false hf, ↓reduceIte, Bool.not_false]
            rw [decide_eq_false (fun h => hf (hiff.1 h).2.1)]
            exact jt
        · simp only [decide_eq_false hp, ↓reduceIte, Bool.false_eq_true]
          rw [decide_eq_false (fun h => hp (hiff.1 h).1)]
          exact jt
      · simp only [show ¬ ((F.length : Int) = (P.length : Int)) from by omega, ↓reduceIte]
        rw [decide_eq_false (fun h => hl h.len)]
        exact jt
    · simp only [decide_eq_false (show ¬ ((1 : Int) ≤ (P.length : Int) ∧ (P.length : Int) ≤ 60) from by omega), ↓reduceIte, Bool.false_eq_true]
      rw [decide_eq_false (fun h => h1 ⟨h.one, h.most⟩)]
      exact jt
  · refine Ev.bind (graph_spec_f g) ?_
    simp only [↓reduceIte, Bool.false_eq_true]
    rw [decide_eq_false (fun h => g h.g)]
    exact jt
theorem all_at (n : Int) (L : List Int) : verts n L = true ↔ ∀ i, i < L.length → 0 ≤ L.getD i 0 ∧ L.getD i 0 < n := by
  unfold verts
  rw [List.all_eq_true]
  constructor
  · intro h i hi; exact of_decide_eq_true (h _ (getD_mem L i hi))
  · intro h x hx
    obtain ⟨i, hi, rfl⟩ := List.getElem_of_mem hx
    have := h i hi
    rw [List.getD_eq_getElem?_getD, List.getElem?_eq_getElem hi] at this
    exact decide_eq_true this
open Classical in
theorem rec_impl (n : Int) (l P F : List Int) (hL : P.length ≤ 1000000) : Ev (fun k => impl_RecordOk.f k n l P F) (decide (ROk n l P F)) := by
  have jt : Ev (fun k => impl_RecordOk.j0 k (P.length : Int) true n l P F) false := Ev.here (fun k => by rw [impl_RecordOk.j0.eq_2, if_pos rfl])
  unfold impl_RecordOk.f
  by_cases hl : F.length = P.length
  · simp only [show ((P.length : Int) = (F.length : Int)) from by omega, in_impl, Option.bind_some, ↓reduceIte]
    rw [show (F.length : Int) = (P.length : Int) from by omega]
    by_cases h1 : 1 ≤ P.length ∧ P.length ≤ 60
    · simp only [show ((1 : Int) ≤ (P.length : Int) ∧ (P.length : Int) ≤ 60) from by omega, and_self, decide_true, ↓reduceIte]
      by_cases h : GOk n l ∧ verts n P = true
      · have g := h.1
        have hn := g.len
        refine Ev.bind (hold_t g h.2) ?_
        simp only [↓reduceIte, vert_impl n l F g.lo g.hi, Option.bind_some]
        have hp := (all_at n P).1 h.2
        cases hv : verts n F with
        | true =>
          have hf := (all_at n F).1 hv
          simp only [Bool.not_true]
          refine Ev.step (fun k => by rw [impl_RecordOk.j0.eq_2, if_neg (by simp)]; rfl) (Ev_all2 (fun k i => impl_RecordOk.l0 k (P.length : Int) ((i + 1 : Nat) : Int) n l P F) (P.length - 1) (turnI l P F) (fun i r hi _ hp2 hr => ?_) (fun i hi _ hp2 => ?_) (Ev.here (fun k => ?_)) _ ?_ (P.length - 1) 0 (by omega) (fun j hj => by omega))
          · refine Ev.step (fun k => ?_) hr
            have e1 : wrap64 (((i + 1 : Nat) : Int) - 1) = (i : Int) := by unfold wrap64; omega
            have ew : wrap64 (((i + 1 : Nat) : Int) + 1) = ((i + 1 + 1 : Nat) : Int) := wsucc (i + 1) (by omega)
            obtain ⟨a, ha, ha2⟩ : ∃ v : Nat, P.getD i 0 = (v : Int) ∧ v < l.length := ⟨(P.getD i 0).toNat, by have := hp i (by omega); omega, by have := hp i (by omega); omega⟩
            obtain ⟨b, hb, hb2⟩ : ∃ v : Nat, F.getD i 0 = (v : Int) ∧ v < l.length := ⟨(F.getD i 0).toNat, by have := hf i (by omega); omega, by have := hf i (by omega); omega⟩
            obtain ⟨c, hc, hc2⟩ : ∃ v : Nat, P.getD (i + 1) 0 = (v : Int) ∧ v < l.length := ⟨(P.getD (i + 1) 0).toNat, by have := hp (i + 1) (by omega); omega, by have := hp (i + 1) (by omega); omega⟩
            obtain ⟨d, hd, hd2⟩ : ∃ v : Nat, F.getD (i + 1) 0 = (v : Int) ∧ v < l.length := ⟨(F.getD (i + 1) 0).toNat, by have := hf (i + 1) (by omega); omega, by have := hf (i + 1) (by omega); omega⟩
            unfold turnI at hp2
            rw [ha, hb, hc, hd] at hp2
            simp only [Int.toNat_natCast] at hp2
            rw [impl_RecordOk.l0.eq_2, if_pos (by omega), e1, if_pos (by omega), if_pos (by omega), if_pos (by omega), if_pos (by omega), if_pos (by omega), if_pos (by omega), rd_nat, rd_nat, rd_nat, rd_nat, ha, hb, hc, hd, turn_impl g a b c d ha2 hb2 hc2 hd2, Option.bind_some, hp2, if_pos rfl, ew]
          · refine Ev.here (fun k => ?_)
            have e1 : wrap64 (((i + 1 : Nat) : Int) - 1) = (i : Int) := by unfold wrap64; omega
            obtain ⟨a, ha, ha2⟩ : ∃ v : Nat, P.getD i 0 = (v : Int) ∧ v < l.length := ⟨(P.getD i 0).toNat, by have := hp i (by omega); omega, by have := hp i (by omega); omega⟩
            obtain ⟨b, hb, hb2⟩ : ∃ v : Nat, F.getD i 0 = (v : Int) ∧ v < l.length := ⟨(F.getD i 0).toNat, by have := hf i (by omega); omega, by have := hf i (by omega); omega⟩
            obtain ⟨c, hc, hc2⟩ : ∃ v : Nat, P.getD (i + 1) 0 = (v : Int) ∧ v < l.length := ⟨(P.getD (i + 1) 0).toNat, by have := hp (i + 1) (by omega); omega, by have := hp (i + 1) (by omega); omega⟩
            obtain ⟨d, hd, hd2⟩ : ∃ v : Nat, F.getD (i + 1) 0 = (v : Int) ∧ v < l.length := ⟨(F.getD (i + 1) 0).toNat, by have := hf (i + 1) (by omega); omega, by have := hf (i + 1) (by omega); omega⟩
            unfold turnI at hp2
            rw [ha, hb, hc, hd] at hp2
            simp only [Int.toNat_natCast] at hp2
            rw [impl_RecordOk.l0.eq_2, if_pos (by omega), e1, if_pos (by omega), if_pos (by omega), if_pos (by omega), if_pos (by omega), if_pos (by omega), if_pos (by omega), rd_nat, rd_nat, rd_nat, rd_nat, ha, hb, hc, hd, turn_impl g a b c d ha2 hb2 hc2 hd2, Option.bind_some, hp2, if_neg (by simp)]
          · rw [impl_RecordOk.l0.eq_2, if_neg (by omega)]
          · rw [decide_eq_true_eq]
            exact ⟨fun hh j hj => hh.turns j (by omega), fun hh => ⟨g, h1.1, h1.2, hl, hp, fun i hi => hf i (by omega), fun i hi => hh i (by omega)⟩⟩
        | false =>
          simp only [Bool.not_false]
          rw [decide_eq_false (fun hh => by rw [(all_at n F).2 (fun i hi => hh.f i (by omega))] at hv; cases hv)]
          exact jt
      · refine Ev.bind (hold_f h) ?_
        simp only [↓reduceIte, Bool.false_eq_true]
        rw [decide_eq_false (fun hh => h ⟨hh.g, (all_at n P).2 hh.p⟩)]
        exact jt
    · simp only [decide_eq_false (show ¬ ((1 : Int) ≤ (P.length : Int) ∧ (P.length : Int) ≤ 60) from by omega), ↓reduceIte, Bool.false_eq_true]
      rw [decide_eq_false (fun h => h1 ⟨h.one, h.most⟩)]
      exact jt
  · simp only [show ¬ ((P.length : Int) = (F.length : Int)) from by omega, ↓reduceIte]
    rw [decide_eq_false (fun h => hl h.len)]
    exact jt
end Go.Proofs.Ytilanbgciofkjaa.Pure
