/- Records: what both programs take for one. -/
import Derived.Test.YtilanbgciofkjaaMb
import Derived.Test.YtilanbgciofkjaaPAx0
import Derived.Test.YtilanbgciofkjaaPAx1
import Derived.Test.YtilanbgciofkjaaPAx18
import Derived.Test.YtilanbgciofkjaaPAx20
import Derived.Test.YtilanbgciofkjaaPAx21
namespace Go.Proofs.Ytilanbgciofkjaa.Pure
open Go.RowKit Go.Proofs.YtilanbgciofkjaaW.PrintWords Go.Proofs.YtilanbgciofkjaaW.PrintLast Go.Proofs.Ytilanbgciofkjaa.PA
set_option linter.unusedVariables false
set_option linter.unusedSimpArgs false
theorem Ev_all2 (G : Nat → Nat → Option Bool) (m : Nat) (p : Nat → Bool) (hs : ∀ i r, i < m → (∀ j, j < i → p j = true) → p i = true → Ev (fun k => G k (i + 1)) r → Ev (fun k => G k i) r) (hx : ∀ i, i < m → (∀ j, j < i → p j = true) → p i = false → Ev (fun k => G k i) false)
    (he : Ev (fun k => G k m) true) (b : Bool) (hb : b = true ↔ ∀ j, j < m → p j = true) : ∀ d i, i + d = m → (∀ j, j < i → p j = true) → Ev (fun k => G k i) b
  | 0, i, hi, hj => by
    obtain rfl : i = m := by omega
    rw [hb.2 hj]; exact he
  | d + 1, i, hi, hj => by
    cases hp : p i with
    | true => exact hs i b (by omega) hj hp (Ev_all2 G m p hs hx he b hb d (i + 1) (by omega) (fun j h => if e : j = i then e ▸ hp else hj j (by omega)))
    | false =>
      have : b = false := by
        cases hbb : b with
        | false => rfl
        | true => have := (hb.1 hbb) i (by omega); rw [hp] at this; cases this
      rw [this]; exact hx i (by omega) hj hp
/-- the program's test of the turn i -/
def turnI (l P F : List Int) (i : Nat) : Bool := decide (P.getD i 0 ≠ F.getD i 0) && ((stayN l (P.getD i 0).toNat).testBit (P.getD (i + 1) 0).toNat && ((stayN l (F.getD i 0).toNat).testBit (F.getD (i + 1) 0).toNat && (decide (P.getD (i + 1) 0 ≠ F.getD i 0) || decide (F.getD (i + 1) 0 = F.getD i 0))))
theorem turn_impl {n : Int} {l : List Int} (g : GOk n l) (p f p2 f2 : Nat) (hp : p < l.length) (hf : f < l.length) (hp2 : p2 < l.length) (hf2 : f2 < l.length) : impl_Graph_isTurn.f n l (p : Int) (f : Int) (p2 : Int) (f2 : Int) = some (decide ((p : Int) ≠ f) && ((stayN l p).testBit p2 && ((stayN l f).testBit f2 && (decide ((p2 : Int) ≠ f) || decide ((f2 : Int) = f))))) := by
  have h8 := g.len8
  have p8 := pow8 _ h8
  have s1 := stayN_lt g p hp
  have s2 := stayN_lt g f hf
  unfold impl_Graph_isTurn.f
  by_cases e : (p : Int) = f
  · rw [if_pos e, decide_eq_false (by simpa using e)]; rfl
  · rw [if_neg e, decide_eq_true e, stayN_impl g p hp, Option.bind_some, has_impl _ p2 (by omega) (by omega), Option.bind_some, Bool.true_and]
    cases (stayN l p).testBit p2 with
    | false => rw [if_neg (by simp)]; rfl
    | true =>
      rw [if_pos rfl, stayN_impl g f hf, Option.bind_some, has_impl _ f2 (by omega) (by omega), Option.bind_some, Bool.true_and]
      cases (stayN l f).testBit f2 with
      | false => rw [if_neg (by simp)]; rfl
      | true =>
        rw [if_pos rfl, Bool.true_and]
        by_cases e2 : (p2 : Int) = f
        · rw [if_pos e2, decide_eq_false (by simpa using e2), Bool.false_or]; congr 1
        · rw [if_neg e2, decide_eq_true e2]; rfl
structure ROk (n : Int) (l P F : List Int) : Prop where
  g : GOk n l
  one : 1 ≤ P.length
  most : P.length ≤ 60
  len : F.length = P.length
  p : ∀ i, i < P.length → 0 ≤ P.getD i 0 ∧ P.getD i 0 < n
  f : ∀ i, i < P.length → 0 ≤ F.getD i 0 ∧ F.getD i 0 < n
  turns : ∀ i, i + 1 < P.length → turnI l P F i = true
theorem all_at (n : Int) (L : List Int) : verts n L = true ↔ ∀ i, i < L.length → 0 ≤ L.getD i 0 ∧ L.getD i 0 < n := by
  unfold verts
  rw [List.all_eq_true]
  constructor
  · intro h i hi; exact of_decide_eq_true (h _ (getD_mem L i hi))
  · intro h x hx
    obtain ⟨i, hi, rfl⟩ := List.getElem_of_mem hx
    have := h i hi
    rw [List.getD_eq_getElem?_getD, List.getElem?_eq_getElem hi] at this
    exact decide_eq_true this
open Classical in
theorem rec_impl (n : Int) (l P F : List Int) (hL : P.length ≤ 1000000) : Ev (fun k => impl_RecordOk.f k n l P F) (decide (ROk n l P F)) := by
  have jt : Ev (fun k => impl_RecordOk.j0 k (P.length : Int) true n l P F) false := Ev.here (fun k => by rw [impl_RecordOk.j0.eq_2, if_pos rfl])
  unfold impl_RecordOk.f
  by_cases hl : F.length = P.length
  · simp only [show ((P.length : Int) = (F.length : Int)) from by omega, in_impl, Option.bind_some, ↓reduceIte]
    rw [show (F.length : Int) = (P.length : Int) from by omega]
    by_cases h1 : 1 ≤ P.length ∧ P.length ≤ 60
    · simp only [show ((1 : Int) ≤ (P.length : Int) ∧ (P.length : Int) ≤ 60) from by omega, and_self, decide_true, ↓reduceIte]
      by_cases h : GOk n l ∧ verts n P = true
      · have g := h.1
        have hn := g.len
        refine Ev.bind (hold_t g h.2) ?_
        simp only [↓reduceIte, vert_impl n l F g.lo g.hi, Option.bind_some]
        have hp := (all_at n P).1 h.2
        cases hv : verts n F with
        | true =>
          have hf := (all_at n F).1 hv
          simp only [Bool.not_true]
          refine Ev.step (fun k => by rw [impl_RecordOk.j0.eq_2, if_neg (by simp)]; rfl) (Ev_all2 (fun k i => impl_RecordOk.l0 k (P.length : Int) ((i + 1 : Nat) : Int) n l P F) (P.length - 1) (turnI l P F) (fun i r hi _ hp2 hr => ?_) (fun i hi _ hp2 => ?_) (Ev.here (fun k => ?_)) _ ?_ (P.length - 1) 0 (by omega) (fun j hj => by omega))
          · refine Ev.step (fun k => ?_) hr
            have e1 : wrap64 (((i + 1 : Nat) : Int) - 1) = (i : Int) := by unfold wrap64; omega
            have ew : wrap64 (((i + 1 : Nat) : Int) + 1) = ((i + 1 + 1 : Nat) : Int) := wsucc (i + 1) (by omega)
            obtain ⟨a, ha, ha2⟩ : ∃ v : Nat, P.getD i 0 = (v : Int) ∧ v < l.length := ⟨(P.getD i 0).toNat, by have := hp i (by omega); omega, by have := hp i (by omega); omega⟩
            obtain ⟨b, hb, hb2⟩ : ∃ v : Nat, F.getD i 0 = (v : Int) ∧ v < l.length := ⟨(F.getD i 0).toNat, by have := hf i (by omega); omega, by have := hf i (by omega); omega⟩
            obtain ⟨c, hc, hc2⟩ : ∃ v : Nat, P.getD (i + 1) 0 = (v : Int) ∧ v < l.length := ⟨(P.getD (i + 1) 0).toNat, by have := hp (i + 1) (by omega); omega, by have := hp (i + 1) (by omega); omega⟩
            obtain ⟨d, hd, hd2⟩ : ∃ v : Nat, F.getD (i + 1) 0 = (v : Int) ∧ v < l.length := ⟨(F.getD (i + 1) 0).toNat, by have := hf (i + 1) (by omega); omega, by have := hf (i + 1) (by omega); omega⟩
            unfold turnI at hp2
            rw [ha, hb, hc, hd] at hp2
            simp only [Int.toNat_natCast] at hp2
            rw [impl_RecordOk.l0.eq_2, if_pos (by omega), e1, if_pos (by omega), if_pos (by omega), if_pos (by omega), if_pos (by omega), if_pos (by omega), if_pos (by omega), rd_nat, rd_nat, rd_nat, rd_nat, ha, hb, hc, hd, turn_impl g a b c d ha2 hb2 hc2 hd2, Option.bind_some, hp2, if_pos rfl, ew]
          · refine Ev.here (fun k => ?_)
            have e1 : wrap64 (((i + 1 : Nat) : Int) - 1) = (i : Int) := by unfold wrap64; omega
            obtain ⟨a, ha, ha2⟩ : ∃ v : Nat, P.getD i 0 = (v : Int) ∧ v < l.length := ⟨(P.getD i 0).toNat, by have := hp i (by omega); omega, by have := hp i (by omega); omega⟩
            obtain ⟨b, hb, hb2⟩ : ∃ v : Nat, F.getD i 0 = (v : Int) ∧ v < l.length := ⟨(F.getD i 0).toNat, by have := hf i (by omega); omega, by have := hf i (by omega); omega⟩
            obtain ⟨c, hc, hc2⟩ : ∃ v : Nat, P.getD (i + 1) 0 = (v : Int) ∧ v < l.length := ⟨(P.getD (i + 1) 0).toNat, by have := hp (i + 1) (by omega); omega, by have := hp (i + 1) (by omega); omega⟩
            obtain ⟨d, hd, hd2⟩ : ∃ v : Nat, F.getD (i + 1) 0 = (v : Int) ∧ v < l.length := ⟨(F.getD (i + 1) 0).toNat, by have := hf (i + 1) (by omega); omega, by have := hf (i + 1) (by omega); omega⟩
            unfold turnI at hp2
            rw [ha, hb, hc, hd] at hp2
            simp only [Int.toNat_natCast] at hp2
            rw [impl_RecordOk.l0.eq_2, if_pos (by omega), e1, if_pos (by omega), if_pos (by omega), if_pos (by omega), if_pos (by omega), if_pos (by omega), if_pos (by omega), rd_nat, rd_nat, rd_nat, rd_nat, ha, hb, hc, hd, turn_impl g a b c d ha2 hb2 hc2 hd2, Option.bind_some, hp2, if_neg (by simp)]
          · rw [impl_RecordOk.l0.eq_2, if_neg (by omega)]
          · rw [decide_eq_true_eq]
            exact ⟨fun hh j hj => hh.turns j (by omega), fun hh => ⟨g, h1.1, h1.2, hl, hp, fun i hi => hf i (by omega), fun i hi => hh i (by omega)⟩⟩
        | false =>
          simp only [Bool.not_false]
          rw [decide_eq_false (fun hh => by rw [(all_at n F).2 (fun i hi => hh.f i (by omega))] at hv; cases hv)]
          exact jt
      · refine Ev.bind (hold_f h) ?_
        simp only [↓reduceIte, Bool.false_eq_true]
        rw [decide_eq_false (fun hh => h ⟨hh.g, (all_at n P).2 hh.p⟩)]
        exact jt
    · simp only [decide_eq_false (show ¬ ((1 : Int) ≤ (P.length : Int) ∧ (P.length : Int) ≤ 60) from by omega), ↓reduceIte, Bool.false_eq_true]
      rw [decide_eq_false (fun h => h1 ⟨h.one, h.most⟩)]
      exact jt
  · simp only [show ¬ ((P.length : Int) = (F.length : Int)) from by omega, ↓reduceIte]
    rw [decide_eq_false (fun h => hl h.len)]
    exact jt
end Go.Proofs.Ytilanbgciofkjaa.Pure
