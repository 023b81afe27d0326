/- The plain law of CornersOf. -/
import Derived.Test.YtjpaaihohkiomaaVCornersOf
import Derived.Test.YtjpaaihohkiomaaEcover
import Derived.Test.YtjpaaihohkiomaaEints
import Derived.Test.YtjpaaihohkiomaaPAx37
import Derived.Test.YtjpaaihohkiomaaPAx38
import Derived.Test.YtjpaaihohkiomaaPAx40
namespace Go.Proofs.Ytjpaaihohkiomaa.Pure
open Go.RowKit Go.Proofs.YtjpaaihohkiomaaW.PrintWords Go.Proofs.YtjpaaihohkiomaaW.PrintLast Go.Proofs.Ytjpaaihohkiomaa.PA
def cornerStep (l : List Int) (acc : List Int) (x : Int) : List Int := if leastN l (2 ^ l.length - 1) x.toNat ≥ 0 then acc ++ [x] else acc
theorem corner_len (l : List Int) : ∀ (L acc : List Int), (L.foldl (cornerStep l) acc).length ≤ acc.length + L.length
  | [], acc => by simp
  | x :: L, acc => by
    rw [List.foldl_cons]
    have h := corner_len l L (cornerStep l acc x)
    have : (cornerStep l acc x).length ≤ acc.length + 1 := by unfold cornerStep; split <;> simp
    simp only [List.length_cons]; omega
theorem all_lt (n : Nat) : 2 ^ n - 1 < 2 ^ n := by have := Nat.one_le_two_pow (n := n); omega
theorem all_int (n : Nat) : ((2 ^ n : Nat) : Int) - 1 = ((2 ^ n - 1 : Nat) : Int) := by have := Nat.one_le_two_pow (n := n); omega
theorem CornersOf_holds : CornersOf := by
  intro n l _ _ hl
  by_cases g : GOk n l
  · have hn := g.len
    have h8 := g.len8
    have hlen := ints_len l.length
    have h1 : Ev (fun k => spec_CornersOf.f k n l) ((ints l.length).foldl (cornerStep l) []) := by
      refine Ev.bind (graph_spec_t g) ?_
      simp only [↓reduceIte]
      refine Ev_fold (fun k (acc : List Int) i => spec_CornersOf.l0 k acc (i : Int) n l) (ints l.length) (cornerStep l) (fun i acc => acc.length ≤ i) id (fun acc i hi ha => ?_) (fun acc ha => ?_) l.length 0 [] (by omega) (by simp)
      · rw [hlen] at hi
        rw [ints_at _ _ hi]
        constructor
        · unfold cornerStep; split
          · rw [List.length_append, List.length_singleton]; omega
          · omega
        · intro r hr
          have hc : Ev (fun k => spec_CoverOf.f k n l (i : Int)) (leastN l (2 ^ l.length - 1) i) := by
            refine Ev.bind (graph_spec_t g) ?_
            simp only [↓reduceIte, vert_spec, Option.bind_some, show (0 ≤ (i : Int) ∧ (i : Int) < n) from by omega, and_self, decide_true, show (0 : Int) ≤ n from by omega]
            refine Ev.congr (fun k => ?_) (Ev.bind (least_spec g _ i (all_lt _) hi) (Ev.now _))
            rw [← hn, sShl _ (by omega), two_wrap _ (by omega), all_int]
          refine Ev.step (fun k => ?_) (Ev.bind (f := fun k t => if t ≥ 0 then spec_CornersOf.l0 k (acc ++ [(i : Int)]) ((i + 1 : Nat) : Int) n l else spec_CornersOf.l0 k acc ((i + 1 : Nat) : Int) n l) hc ?_)
          · rw [spec_CornersOf.l0.eq_2, if_pos (by omega), wsucc i (by omega), if_pos (by omega)]
          · unfold cornerStep at hr
            rw [Int.toNat_natCast] at hr
            split at hr
            · rename_i hh; simp only [hh, ↓reduceIte]; exact hr
            · rename_i hh; simp only [hh, ↓reduceIte]; exact hr
      · refine Ev.here (fun k => ?_)
        rw [hlen, spec_CornersOf.l0.eq_2, if_neg (by omega)]; rfl
    have h2 : Ev (fun k => impl_CornersOf.f k n l) ((ints l.length).foldl (cornerStep l) []) := by
      refine Ev.bind (graph_impl_t g) ?_
      simp only [↓reduceIte]
      refine Ev_fold (fun k (acc : List Int) i => impl_CornersOf.l0 k acc n (i : Int) n l) (ints l.length) (cornerStep l) (fun i acc => acc.length ≤ i) id (fun acc i hi ha => ?_) (fun acc ha => ?_) l.length 0 [] (by omega) (by simp)
      · rw [hlen] at hi
        rw [ints_at _ _ hi]
        constructor
        · unfold cornerStep; split
          · rw [List.length_append, List.length_singleton]; omega
          · omega
        · intro r hr
          have hc := least_impl g _ i (all_lt l.length) hi
          refine Ev.step (fun k => ?_) (Ev.bind (f := fun k t => if t ≥ 0 then impl_CornersOf.l0 k (acc ++ [(i : Int)]) n ((i + 1 : Nat) : Int) n l else impl_CornersOf.l0 k acc n ((i + 1 : Nat) : Int) n l) hc ?_)
          · have ea : impl_Graph_all.f n l = some ((2 ^ l.length - 1 : Nat) : Int) := by rw [← hn, all_impl _ _ (by omega), all_int]
            rw [impl_CornersOf.l0.eq_2, if_pos (by omega), ea, Option.bind_some, wsucc i (by omega), if_pos (by omega)]
          · unfold cornerStep at hr
            rw [Int.toNat_natCast] at hr
            split at hr
            · rename_i hh; simp only [hh, ↓reduceIte]; exact hr
            · rename_i hh; simp only [hh, ↓reduceIte]; exact hr
      · refine Ev.here (fun k => ?_)
        rw [hlen, impl_CornersOf.l0.eq_2, if_neg (by omega)]; rfl
    obtain ⟨k1, k2, r, e1, e2⟩ := both_ev h1 h2
    obtain ⟨k1, e1⟩ := h1.rounds
    obtain ⟨k2, e2⟩ := h2.rounds
    refine ⟨k1, k2, _, e1, e2, ?_⟩
    have := corner_len l (ints l.length) []
    simp only [List.length_nil] at this
    omega
  · have h1 : Ev (fun k => spec_CornersOf.f k n l) [] := by
      refine Ev.bind (graph_spec_f g) ?_
      simp only [↓reduceIte, Bool.false_eq_true]; exact Ev.now _
    have h2 : Ev (fun k => impl_CornersOf.f k n l) [] := by
      refine Ev.bind (graph_impl_f g) ?_
      simp only [↓reduceIte, Bool.false_eq_true]; exact Ev.now _
    obtain ⟨k1, e1⟩ := h1.rounds
    obtain ⟨k2, e2⟩ := h2.rounds
    exact ⟨k1, k2, _, e1, e2, by simp⟩
end Go.Proofs.Ytjpaaihohkiomaa.Pure
