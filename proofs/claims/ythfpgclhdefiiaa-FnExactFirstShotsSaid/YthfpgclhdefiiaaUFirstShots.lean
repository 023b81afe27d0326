/- The plain law of FirstShots: both programs walk down their tables. -/
import Derived.Test.YthfpgclhdefiiaaVFirstShots
import Derived.Test.YthfpgclhdefiiaaEfewest
import Derived.Test.YthfpgclhdefiiaaPAx35
import Derived.Test.YthfpgclhdefiiaaPAx36
namespace Go.Proofs.Ythfpgclhdefiiaa.Pure
open Go.RowKit Go.Proofs.YthfpgclhdefiiaaW.PrintWords Go.Proofs.YthfpgclhdefiiaaW.PrintLast Go.Proofs.Ythfpgclhdefiiaa.PA
set_option linter.unusedVariables false
set_option linter.unusedSimpArgs false
theorem good_iff {l : List Int} {no : Int} {T : List Int} (hg : Good l no T) (hno : ∀ j : Nat, j < 256 → no ≠ (j : Int)) {j t : Nat} (hj : j < 256) (ht : t < 2 ^ l.length) : T.getD t 0 = (j : Int) ↔ Dk l j t := by
  rcases hg.2 t ht with q | ⟨i, q1, q2⟩
  · exact ⟨fun h => absurd (q.1.symm.trans h) (hno j hj), fun h => absurd h (q.2 j)⟩
  · constructor
    · intro h; obtain rfl : i = j := by omega
      exact q1
    · intro h; rw [q2, D_uniq q1 h]
theorem first_spec_l1 {n : Int} {l : List Int} (g : GOk n l) {T : List Int} (hg : Good l (-1) T) (o : List Int) (ho : o.length ≤ 1000) (k s : Nat) (hs : s < 2 ^ l.length) (hd : Dk l (k + 1) s) (u : Nat) (hu : u < l.length) (hdu : Dk l k (afterN l s u)) (hlow : ∀ v, v < u → ¬ Dk l k (afterN l s v)) (r : List Int × Bool)
    (hr : Ev (fun f => spec_FirstShots.l0 f T (o ++ [(u : Int)]) (afterN l s u : Int) n l) r) : ∀ d v, v + d = u → Ev (fun f => spec_FirstShots.l1 f T o (s : Int) (v : Int) n l) r := by
  have p8 := pow8 _ g.len8
  have hn := g.len
  have h8 := g.len8
  have hlen := hg.1
  have hk := D_lt g hs hd
  have hT : T.getD s 0 = ((k + 1 : Nat) : Int) := (good_iff hg (fun j _ => by omega) hk hs).2 hd
  have hw : wrap64 (((k + 1 : Nat) : Int) - 1) = (k : Int) := by unfold wrap64; omega
  intro d
  induction d with
  | zero =>
    intro v hv
    obtain rfl : v = u := by omega
    have hA := afterN_lt g s v hs
    refine Ev.step (fun f => by rw [spec_FirstShots.l1.eq_2, if_pos (by omega)]) (Ev.bind (after_spec g s v hs hu) ?_)
    simp only [show (0 : Int) ≤ (afterN l s v : Int) from by omega, show (afterN l s v : Int) < (T.length : Int) from by omega, show (0 : Int) ≤ (s : Int) from by omega, show (s : Int) < (T.length : Int) from by omega, ↓reduceIte, rd_nat, hT, hw, (good_iff hg (fun j _ => by omega) (by omega) hA).2 hdu, show o.length < 17592186044416 from by omega]
    exact hr
  | succ d ih =>
    intro v hv
    have hA := afterN_lt g s v hs
    have hne : ¬ (T.getD (afterN l s v) 0 = (k : Int)) := fun h => hlow v (by omega) ((good_iff hg (fun j _ => by omega) (by omega) hA).1 h)
    refine Ev.step (fun f => by rw [spec_FirstShots.l1.eq_2, if_pos (by omega)]) (Ev.bind (after_spec g s v hs (by omega)) ?_)
    simp only [show (0 : Int) ≤ (afterN l s v : Int) from by omega, show (afterN l s v : Int) < (T.length : Int) from by omega, show (0 : Int) ≤ (s : Int) from by omega, show (s : Int) < (T.length : Int) from by omega, ↓reduceIte, rd_nat, hT, hw, hne, wsucc v (show v ≤ 4000000 by omega)]
    exact ih (v + 1) (by omega)
theorem first_impl_l1 {n : Int} {l : List Int} (g : GOk n l) {T : List Int} (hg : Good l 1000 T) (o : List Int) (ho : o.length ≤ 1000) (k s : Nat) (hs : s < 2 ^ l.length) (hd : Dk l (k + 1) s) (u : Nat) (hu : u < l.length) (hdu : Dk l k (afterN l s u)) (hlow : ∀ v, v < u → ¬ Dk l k (afterN l s v)) (r : List Int × Bool)
    (hr : Ev (fun f => impl_FirstShots.l0 f T (o ++ [(u : Int)]) (afterN l s u : Int) n l) r) : ∀ d v, v + d = u → Ev (fun f => impl_FirstShots.l1 f T o (s : Int) n (v : Int) n l) r := by
  have p8 := pow8 _ g.len8
  have hn := g.len
  have h8 := g.len8
  have hlen := hg.1
  have hk := D_lt g hs hd
  have hT : T.getD s 0 = ((k + 1 : Nat) : Int) := (good_iff hg (fun j _ => by omega) hk hs).2 hd
  have hw : wrap64 (((k + 1 : Nat) : Int) - 1) = (k : Int) := by unfold wrap64; omega
  intro d
  induction d with
  | zero =>
    intro v hv
    obtain rfl : v = u := by omega
    have hA := afterN_lt g s v hs
    refine Ev.step (fun f => by rw [impl_FirstShots.l1.eq_2, if_pos (by omega)]) (Ev.bind (after_impl g s v hs hu) ?_)
    simp only [show (0 : Int) ≤ (afterN l s v : Int) from by omega, show (afterN l s v : Int) < (T.length : Int) from by omega, show (0 : Int) ≤ (s : Int) from by omega, show (s : Int) < (T.length : Int) from by omega, ↓reduceIte, rd_nat, hT, hw, (good_iff hg (fun j _ => by omega) (by omega) hA).2 hdu, show o.length < 17592186044416 from by omega]
    exact hr
  | succ d ih =>
    intro v hv
    have hA := afterN_lt g s v hs
    have hne : ¬ (T.getD (afterN l s v) 0 = (k : Int)) := fun h => hlow v (by omega) ((good_iff hg (fun j _ => by omega) (by omega) hA).1 h)
    refine Ev.step (fun f => by rw [impl_FirstShots.l1.eq_2, if_pos (by omega)]) (Ev.bind (after_impl g s v hs (by omega)) ?_)
    simp only [show (0 : Int) ≤ (afterN l s v : Int) from by omega, show (afterN l s v : Int) < (T.length : Int) from by omega, show (0 : Int) ≤ (s : Int) from by omega, show (s : Int) < (T.length : Int) from by omega, ↓reduceIte, rd_nat, hT, hw, hne, wsucc v (show v ≤ 4000000 by omega)]
    exact ih (v + 1) (by omega)
theorem first_l0 {n : Int} {l : List Int} (g : GOk n l) {T1 T2 : List Int} (hg1 : Good l (-1) T1) (hg2 : Good l 1000 T2) : ∀ k s o, s < 2 ^ l.length → Dk l k s → o.length + k ≤ 1000 →
    ∃ r : List Int, r.length ≤ 1000 ∧ Ev (fun f => spec_FirstShots.l0 f T1 o (s : Int) n l) (r, true) ∧ Ev (fun f => impl_FirstShots.l0 f T2 o (s : Int) n l) (r, true)
  | 0, s, o, hs, hd, ho => by
    obtain rfl := (D_zero s).1 hd
    exact ⟨o, by omega, Ev.here (fun f => by rw [spec_FirstShots.l0.eq_2, if_pos (by omega)]), Ev.here (fun f => by rw [impl_FirstShots.l0.eq_2, if_pos (by omega)])⟩
  | k + 1, s, o, hs, hd, ho => by
    have hs0 : s ≠ 0 := fun e => by
      have := D_uniq hd ((D_zero s).2 e); omega
    have hex := D_succ hd
    have hmin : ∃ u, u < l.length ∧ Dk l k (afterN l s u) ∧ ∀ v, v < u → ¬ Dk l k (afterN l s v) := by
      obtain ⟨u0, h1, h2⟩ := hex
      induction u0 using Nat.strongRecOn with
      | ind u0 ih =>
        by_cases hj : ∃ v, v < u0 ∧ Dk l k (afterN l s v)
        · obtain ⟨v, hv, hdv⟩ := hj
          exact ih v hv (by omega) hdv
        · exact ⟨u0, h1, h2, fun v hv hdv => hj ⟨v, hv, hdv⟩⟩
    obtain ⟨u, hu, hdu, hlow⟩ := hmin
    obtain ⟨r, hr, h1, h2⟩ := first_l0 g hg1 hg2 k (afterN l s u) (o ++ [(u : Int)]) (afterN_lt g s u hs) hdu (by simp; omega)
    refine ⟨r, hr, ?_, ?_⟩
    · exact Ev.step (fun f => by rw [spec_FirstShots.l0.eq_2, if_neg (by omega)]; rfl) (first_spec_l1 g hg1 o (by omega) k s hs hd u hu hdu hlow _ h1 u 0 (by omega))
    · exact Ev.step (fun f => by rw [impl_FirstShots.l0.eq_2, if_neg (by omega)]; rfl) (first_impl_l1 g hg2 o (by omega) k s hs hd u hu hdu hlow _ h2 u 0 (by omega))
theorem FirstShots_holds : FirstShots := by
  intro n l _ _ _
  obtain ⟨q, hq1, hq2, hq⟩ := few_both n l
  by_cases hneg : q < 0
  · obtain ⟨ks, h1⟩ : Ev (fun k => spec_FirstShots.f k n l) (([] : List Int), false) := by
      refine Ev.bind hq1 ?_
      simp only [hneg, ↓reduceIte]; exact Ev.now _
    obtain ⟨ki, h2⟩ : Ev (fun k => impl_FirstShots.f k n l) (([] : List Int), false) := by
      refine Ev.bind hq2 ?_
      simp only [hneg, ↓reduceIte]; exact Ev.now _
    exact ⟨ks, ki, _, _, h1 ks (Nat.le_refl _), h2 ki (Nat.le_refl _), by simp⟩
  · rcases hq with ⟨_, e⟩ | ⟨g, hT⟩
    · omega
    · rcases hT with ⟨e, _⟩ | ⟨j, hd, e⟩
      · omega
      · have ha := all_lt2 l.length
        have hn := g.len
        have h8 := g.len8
        have hj := D_lt g ha hd
        obtain ⟨T1, t1, hg1⟩ := table_spec g
        obtain ⟨T2, t2, hg2⟩ := table_impl g
        obtain ⟨r, hr, e1, e2⟩ := first_l0 g hg1 hg2 j (2 ^ l.length - 1) [] ha hd (by simp; omega)
        have ew : wrap64 (shl .i64 1 n - 1) = ((2 ^ l.length - 1 : Nat) : Int) := by rw [← hn, sShl _ (by omega), two_wrap _ (by omega), all_int2]
        have ea : impl_Graph_all.f n l = some ((2 ^ l.length - 1 : Nat) : Int) := by rw [← hn, all_impl _ _ (by omega), all_int2]
        obtain ⟨ks, h1⟩ : Ev (fun k => spec_FirstShots.f k n l) (r, true) := by
          refine Ev.bind hq1 ?_
          simp only [hneg, ↓reduceIte]
          refine Ev.bind t1 ?_
          simp only [show (0 : Int) ≤ n from by omega, ↓reduceIte, ew]
          exact e1
        obtain ⟨ki, h2⟩ : Ev (fun k => impl_FirstShots.f k n l) (r, true) := by
          refine Ev.bind hq2 ?_
          simp only [hneg, ↓reduceIte]
          refine Ev.bind t2 ?_
          simp only [ea, Option.bind_some]
          exact e2
        exact ⟨ks, ki, _, _, h1 ks (Nat.le_refl _), h2 ki (Nat.le_refl _), by omega⟩
end Go.Proofs.Ythfpgclhdefiiaa.Pure
