/- The plain law of FoldOf: the reference walks along the order, the program along its table. -/
import Derived.Test.YthfpgclhdefiiaaVFoldOf
import Derived.Test.YthfpgclhdefiiaaEisd
import Derived.Test.YthfpgclhdefiiaaPAx26
import Derived.Test.YthfpgclhdefiiaaPAx27
namespace Go.Proofs.Ythfpgclhdefiiaa.Pure
open Go.RowKit Go.Proofs.YthfpgclhdefiiaaW.PrintWords Go.Proofs.YthfpgclhdefiiaaW.PrintLast Go.Proofs.Ythfpgclhdefiiaa.PA
set_option linter.unusedVariables false
set_option linter.unusedSimpArgs false
def foldP (P : List (Int × Int)) (x : Int) : Int := P.foldl (fun x p => if x = p.1 then p.2 else x) x
theorem setAll_len : ∀ (P : List (Int × Int)) (C : List Int), (setAll C P).length = C.length
  | [], C => rfl
  | p :: P, C => by unfold setAll; rw [List.foldl_cons]; exact (setAll_len P _).trans (by simp)
theorem setAll_no (x : Nat) : ∀ (P : List (Int × Int)) (C : List Int), (∀ p ∈ P, p.1.toNat ≠ x) → (setAll C P).getD x 0 = C.getD x 0
  | [], C, _ => rfl
  | p :: P, C, h => by
    have e : setAll C (p :: P) = setAll (C.set p.1.toNat p.2) P := rfl
    rw [e, setAll_no x P _ (fun q hq => h q (List.mem_cons_of_mem _ hq)), List.getD_eq_getElem?_getD, List.getElem?_set_ne (h p List.mem_cons_self), ← List.getD_eq_getElem?_getD]
theorem setAll_yes : ∀ (P : List (Int × Int)) (C : List Int), P.Pairwise (fun p q => p.1.toNat ≠ q.1.toNat) → (∀ p ∈ P, p.1.toNat < C.length) → ∀ p ∈ P, (setAll C P).getD p.1.toNat 0 = p.2
  | [], _, _, _, _, hp => by cases hp
  | q :: P, C, hw, hl, p, hp => by
    have e : setAll C (q :: P) = setAll (C.set q.1.toNat q.2) P := rfl
    rw [List.pairwise_cons] at hw
    rw [e]
    rcases List.mem_cons.1 hp with h | h
    · subst h
      rw [setAll_no _ P _ (fun r hr => (hw.1 r hr).symm), List.getD_eq_getElem?_getD, List.getElem?_set_self (hl p List.mem_cons_self)]
      rfl
    · exact setAll_yes P _ hw.2 (fun r hr => by rw [List.length_set]; exact hl r (List.mem_cons_of_mem _ hr)) p h
def foldS (P : List (Int × Int)) (acc : List Int) (x : Int) : List Int := acc ++ [foldP P x]
theorem foldS_len (P : List (Int × Int)) : ∀ (L acc : List Int), (L.foldl (foldS P) acc).length = acc.length + L.length
  | [], acc => by simp
  | x :: L, acc => by rw [List.foldl_cons, foldS_len P L]; unfold foldS; simp only [List.length_append, List.length_cons, List.length_nil]; omega
theorem fold_spec_l1 {n : Int} {l : List Int} (P : List (Int × Int)) (hP : P.length ≤ 1000) (out : List Int) (ho : out.length ≤ 1000) (v : Nat) (hv : v ≤ 1000) (r : List Int × Bool) : ∀ d i x, i + d = P.length →
    Ev (fun k => spec_FoldOf.l0 k (P.map Prod.fst) (P.map Prod.snd) (out ++ [foldP (P.drop i) x]) ((v + 1 : Nat) : Int) n l) r → Ev (fun k => spec_FoldOf.l1 k (P.map Prod.fst) (P.map Prod.snd) out (v : Int) x (P.map Prod.fst) ((P.map Prod.fst).length : Int) (i : Int) n l) r
  | 0, i, x, hi, h => by
    obtain rfl : i = P.length := by omega
    rw [List.drop_length] at h
    refine Ev.step (fun k => ?_) h
    rw [spec_FoldOf.l1.eq_2, if_neg (by rw [List.length_map]; omega), if_pos (by omega), wsucc v (by omega)]
    rfl
  | d + 1, i, x, hi, h => by
    have hiP : i < P.length := by omega
    have e1 : (P.map Prod.fst).getD i 0 = (P[i]'hiP).1 := by simp [List.getD_eq_getElem?_getD, hiP]
    have e2 : (P.map Prod.snd).getD i 0 = (P[i]'hiP).2 := by simp [List.getD_eq_getElem?_getD, hiP]
    rw [List.drop_eq_getElem_cons hiP] at h
    have e3 : foldP (P[i]'hiP :: P.drop (i + 1)) x = foldP (P.drop (i + 1)) (if x = (P[i]'hiP).1 then (P[i]'hiP).2 else x) := rfl
    rw [e3] at h
    refine Ev.step (fun k => ?_) (fold_spec_l1 P hP out ho v hv r d (i + 1) _ (by omega) h)
    rw [spec_FoldOf.l1.eq_2, if_pos (by rw [List.length_map]; omega), if_pos (by omega), if_pos (by rw [List.length_map]; omega), rd_nat, e1, rd_nat, e2, wsucc i (by omega)]
    by_cases e : x = (P[i]'hiP).1
    · rw [if_pos e, if_pos e, if_pos (by rw [List.length_map]; omega)]
    · rw [if_neg e, if_neg e]
theorem fold_spec {n : Int} {l : List Int} (g : GOk n l) (P : List (Int × Int)) (hP : P.length ≤ 1000) : Ev (fun k => spec_FoldOf.l0 k (P.map Prod.fst) (P.map Prod.snd) [] 0 n l) ((ints l.length).foldl (foldS P) [], true) := by
  have hn := g.len
  have h8 := g.len8
  have hlen := ints_len l.length
  refine Ev_fold (fun k (acc : List Int) i => spec_FoldOf.l0 k (P.map Prod.fst) (P.map Prod.snd) acc (i : Int) n l) (ints l.length) (foldS P) (fun i acc => acc.length = i) (fun acc => (acc, true)) (fun acc i hi ha => ?_) (fun acc ha => ?_) l.length 0 [] (by omega) rfl
  · rw [hlen] at hi
    rw [ints_at _ _ hi]
    refine ⟨by unfold foldS; rw [List.length_append, ha]; rfl, fun r hr => ?_⟩
    refine Ev.step (fun k => ?_) (fold_spec_l1 P hP acc (by omega) i (by omega) r P.length 0 (i : Int) (by omega) (by rw [List.drop_zero]; exact hr))
    rw [spec_FoldOf.l0.eq_2, if_pos (by omega)]
    rfl
  · refine Ev.here (fun k => ?_)
    rw [hlen, spec_FoldOf.l0.eq_2, if_neg (by omega)]
theorem fold_impl_l1 (P : List (Int × Int)) (C : List Int) (m : Nat) (hm : m ≤ 8) (hC : C.length = m)
    (hok : ∀ p ∈ P, ∃ v w : Nat, p = ((v : Int), (w : Int)) ∧ v < m ∧ w < m ∧ v ≠ w) (hpw : P.Pairwise (fun p q => p.1 ≠ q.1 ∧ p.1 ≠ q.2))
    (hyes : ∀ p ∈ P, C.getD p.1.toNat 0 = p.2) (hno : ∀ x : Nat, x < m → (∀ p ∈ P, p.1.toNat ≠ x) → C.getD x 0 = (x : Int))
    (out : List Int) (ho : out.length ≤ 1000) (i : Nat) (hi : i ≤ 1000) (len : Int) (r : List Int × Bool) : ∀ (Q pre : List (Int × Int)) (x : Nat), P = pre ++ Q → x < m → (∀ p ∈ pre, p.1.toNat ≠ x) →
    Ev (fun k => impl_FoldOf.l0 k C (out ++ [foldP Q (x : Int)]) len ((i + 1 : Nat) : Int)) r → Ev (fun k => impl_FoldOf.l1 k C out (x : Int) len (i : Int)) r
  | [], pre, x, hp, hx, hpre, h => by
    rw [List.append_nil] at hp
    subst hp
    have e := hno x hx hpre
    refine Ev.step (fun k => ?_) h
    rw [impl_FoldOf.l1.eq_2, if_pos (by omega), if_pos (by omega), rd_nat, e, if_pos rfl, if_pos (by omega), wsucc i (by omega)]
    rfl
  | q :: Q, pre, x, hp, hx, hpre, h => by
    have hq : q ∈ P := by rw [hp]; simp
    obtain ⟨v, w, eq, hv, hw, hvw⟩ := hok q hq
    have e3 : foldP (q :: Q) (x : Int) = foldP Q (if (x : Int) = q.1 then q.2 else x) := rfl
    rw [e3] at h
    by_cases e : (x : Int) = q.1
    · rw [if_pos e, eq] at h
      have hy := hyes q hq
      rw [eq] at hy e
      simp only [Int.toNat_natCast] at hy e
      have exv : x = v := by omega
      subst exv
      refine Ev.step (fun k => ?_) (fold_impl_l1 P C m hm hC hok hpw hyes hno out ho i hi len r Q (pre ++ [q]) w (by rw [hp, List.append_assoc]; rfl) hw (fun p hpp => ?_) h)
      · rw [impl_FoldOf.l1.eq_2, if_pos (by omega), if_pos (by omega), rd_nat, hy, if_neg (by omega)]
      · rcases List.mem_append.1 hpp with h1 | h1
        · rw [hp, List.pairwise_append] at hpw
          have h2 := (hpw.2.2 p h1 q List.mem_cons_self).2
          rw [eq] at h2
          obtain ⟨a, b, e4, _⟩ := hok p (by rw [hp]; exact List.mem_append_left _ h1)
          rw [e4] at h2 ⊢
          simp only [Int.toNat_natCast] at h2 ⊢
          omega
        · rw [List.mem_singleton] at h1
          rw [h1, eq]
          simp only [Int.toNat_natCast]
          exact hvw
    · rw [if_neg e] at h
      refine fold_impl_l1 P C m hm hC hok hpw hyes hno out ho i hi len r Q (pre ++ [q]) x (by rw [hp, List.append_assoc]; rfl) hx (fun p hpp => ?_) h
      rcases List.mem_append.1 hpp with h1 | h1
      · exact hpre p h1
      · rw [List.mem_singleton] at h1
        rw [h1, eq]
        rw [eq] at e
        simp only [Int.toNat_natCast] at e ⊢
        omega
theorem fold_impl {n : Int} {l : List Int} (g : GOk n l) : Ev (fun k => impl_FoldOf.l0 k (setAll (ints l.length) (dis l 256 (2 ^ l.length - 1)).1) [] ((setAll (ints l.length) (dis l 256 (2 ^ l.length - 1)).1).length : Int) 0) ((ints l.length).foldl (foldS (dis l 256 (2 ^ l.length - 1)).1) [], true) := by
  have hn := g.len
  have h8 := g.len8
  have hlen := ints_len l.length
  obtain ⟨hok, hpw⟩ := dis_ok h8 256 _ (all_lt' l.length)
  have hlC : (setAll (ints l.length) (dis l 256 (2 ^ l.length - 1)).1).length = l.length := by rw [setAll_len, hlen]
  have hok' : ∀ p ∈ (dis l 256 (2 ^ l.length - 1)).1, ∃ v w : Nat, p = ((v : Int), (w : Int)) ∧ v < l.length ∧ w < l.length ∧ v ≠ w := fun p hp => by
    obtain ⟨v, w, h1, h2, h3, _, _, h4⟩ := hok p hp
    exact ⟨v, w, h1, h2, h3, h4⟩
  refine Ev_fold (fun k (acc : List Int) i => impl_FoldOf.l0 k (setAll (ints l.length) (dis l 256 (2 ^ l.length - 1)).1) acc ((setAll (ints l.length) (dis l 256 (2 ^ l.length - 1)).1).length : Int) (i : Int)) (ints l.length) (foldS (dis l 256 (2 ^ l.length - 1)).1) (fun i acc => acc.length = i) (fun acc => (acc, true)) (fun acc i hi ha => ?_) (fun acc ha => ?_) l.length 0 [] (by omega) rfl
  · rw [hlen] at hi
    rw [ints_at _ _ hi]
    refine ⟨by unfold foldS; rw [List.length_append, ha]; rfl, fun r hr => ?_⟩
    refine Ev.step (fun k => ?_) (fold_impl_l1 _ _ l.length h8 hlC hok' hpw ?_ ?_ acc (by omega) i (by omega) _ r _ [] i (by rw [List.nil_append]) hi (by simp) hr)
    · rw [impl_FoldOf.l0.eq_2, if_pos (by rw [hlC]; omega)]
    · refine setAll_yes _ _ (hpw.imp_of_mem (fun {p q} hp hq h => ?_)) (fun p hp => ?_)
      · obtain ⟨a, _, e1, _⟩ := hok' p hp
        obtain ⟨b, _, e2, _⟩ := hok' q hq
        have := h.1
        rw [e1, e2] at this ⊢
        simp only [Int.toNat_natCast] at this ⊢
        omega
      · obtain ⟨a, _, e1, h1, _⟩ := hok' p hp
        rw [e1, hlen]
        simpa using h1
    · intro x hx hno
      rw [setAll_no x _ _ hno, ints_at _ _ hx]
  · refine Ev.here (fun k => ?_)
    rw [hlen, impl_FoldOf.l0.eq_2, if_neg (by rw [hlC]; omega)]
theorem FoldOf_holds : FoldOf := by
  intro n l _ _ _
  by_cases g : GOk n l
  · have hP : (dis l 256 (2 ^ l.length - 1)).1.length ≤ 1000 := by have := dis_len l 256 (2 ^ l.length - 1); omega
    have h8 := g.len8
    have hs := IsDismantlablespec_t g
    have hi := IsDismantlableimpl_t g
    cases ho : oneLeft l with
    | true =>
      rw [ho] at hs hi
      obtain ⟨ks, h1⟩ : Ev (fun k => spec_FoldOf.f k n l) ((ints l.length).foldl (foldS (dis l 256 (2 ^ l.length - 1)).1) [], true) := by
        refine Ev.bind hs ?_
        simp only [↓reduceIte]
        exact Ev.bind (dism_spec g) (fold_spec g _ hP)
      obtain ⟨ki, h2⟩ : Ev (fun k => impl_FoldOf.f k n l) ((ints l.length).foldl (foldS (dis l 256 (2 ^ l.length - 1)).1) [], true) := by
        refine Ev.bind hi ?_
        simp only [↓reduceIte]
        exact Ev.bind (dism_impl g) (fold_impl g)
      exact ⟨ks, ki, _, _, h1 ks (Nat.le_refl _), h2 ki (Nat.le_refl _), by rw [foldS_len, ints_len]; simp; omega⟩
    | false =>
      rw [ho] at hs hi
      obtain ⟨ks, h1⟩ : Ev (fun k => spec_FoldOf.f k n l) (([] : List Int), false) := by
        refine Ev.bind hs ?_
        simp only [↓reduceIte, Bool.false_eq_true]; exact Ev.now _
      obtain ⟨ki, h2⟩ : Ev (fun k => impl_FoldOf.f k n l) (([] : List Int), false) := by
        refine Ev.bind hi ?_
        simp only [↓reduceIte, Bool.false_eq_true]; exact Ev.now _
      exact ⟨ks, ki, _, _, h1 ks (Nat.le_refl _), h2 ki (Nat.le_refl _), by simp⟩
  · obtain ⟨ks, h1⟩ : Ev (fun k => spec_FoldOf.f k n l) (([] : List Int), false) := by
      refine Ev.bind (IsDismantlablespec_f g) ?_
      simp only [↓reduceIte, Bool.false_eq_true]; exact Ev.now _
    obtain ⟨ki, h2⟩ : Ev (fun k => impl_FoldOf.f k n l) (([] : List Int), false) := by
      refine Ev.bind (IsDismantlableimpl_f g) ?_
      simp only [↓reduceIte, Bool.false_eq_true]; exact Ev.now _
    exact ⟨ks, ki, _, _, h1 ks (Nat.le_refl _), h2 ki (Nat.le_refl _), by simp⟩
end Go.Proofs.Ythfpgclhdefiiaa.Pure
