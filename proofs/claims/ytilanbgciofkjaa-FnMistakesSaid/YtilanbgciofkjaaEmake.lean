/- What the laws' codes make: valid graphs, and numbers. No program here. -/
import Derived.Test.YtilanbgciofkjaaMb
import Derived.Test.YtilanbgciofkjaaMt
import Derived.Test.YtilanbgciofkjaaPMx1
namespace Go.Proofs.Ytilanbgciofkjaa.Pure
open Go.RowKit Go.Proofs.YtilanbgciofkjaaW.PrintWords Go.Proofs.YtilanbgciofkjaaW.PrintLast Go.Proofs.Ytilanbgciofkjaa.PM
set_option linter.unusedVariables false
set_option linter.unusedSimpArgs false
theorem and255 (x : Int) : 0 ≤ Go.bits .and .i64 x 255 ∧ Go.bits .and .i64 x 255 ≤ 255 := by
  have h : ((BitVec.ofInt 64 x) &&& (BitVec.ofInt 64 255)).toNat ≤ 255 := by
    rw [BitVec.toNat_and]; exact Nat.le_trans Nat.and_le_right (by decide)
  have e : Go.bits .and .i64 x 255 = IntKind.i64.wrap ((((BitVec.ofInt 64 x) &&& (BitVec.ofInt 64 255)).toNat : Nat) : Int) := rfl
  rw [e, wrap_lt _ (Int.natCast_nonneg _) (by omega)]
  omega
theorem byte_ok (b : List Int) (hb : b.length ≤ 1048576) (i h : Int) (h0 : 0 ≤ i) (h1 : i ≤ (b.length : Int)) : ∃ r i' h', spec_l01Byte.f b i h = some (r, i', h') ∧ (0 ≤ r ∧ r ≤ 255) ∧ 0 ≤ i' ∧ i' ≤ (b.length : Int) := by
  unfold spec_l01Byte.f
  by_cases c : i < (b.length : Int)
  · have hw : wrap64 (i + 1) = i + 1 := by unfold wrap64; omega
    rw [if_pos c, if_pos h0, hw]
    exact ⟨_, _, _, rfl, and255 _, Int.add_nonneg h0 (by decide), c⟩
  · rw [if_neg c]
    exact ⟨_, _, _, rfl, and255 _, h0, h1⟩
theorem below_ok (b : List Int) (hb : b.length ≤ 1048576) (i h n : Int) (h0 : 0 ≤ i) (h1 : i ≤ (b.length : Int)) (n0 : 0 < n) (n1 : n ≤ 256) : ∃ r i' h', spec_l01Below.f b i h n = some (r, i', h') ∧ (0 ≤ r ∧ r < n) ∧ 0 ≤ i' ∧ i' ≤ (b.length : Int) := by
  obtain ⟨r, i', h', e, hr, hi⟩ := byte_ok b hb i h h0 h1
  unfold spec_l01Below.f
  rw [if_neg (Int.not_le.2 n0), if_pos n1, e, Option.bind_some, if_neg (Int.ne_of_gt n0)]
  exact ⟨_, _, _, rfl, ⟨Int.tmod_nonneg _ hr.1, Int.tmod_lt_of_pos _ n0⟩, hi⟩
theorem join_ok {n : Int} {l : List Int} (g : GOk n l) (m : Int) (v w : Nat) (hv : v < l.length) (hw : w < l.length) (hne : v ≠ w) : ∃ l', spec_l02Join.f m l (v : Int) (w : Int) = some l' ∧ GOk n l' := by
  have h8 := g.len8
  have b63 : ∀ u, u < l.length → row l u < 2 ^ 63 := fun u hu => Nat.lt_of_lt_of_le (g.row_lt8 u hu) (by decide)
  have p63 : ∀ u, u < l.length → (2 : Nat) ^ u < 2 ^ 63 := fun u hu => Nat.pow_lt_pow_right (by decide) (by omega)
  have e1 : (l.set v (Go.bits .or .i64 (rd l (v : Int)) (shl .i64 1 (w : Int)))) = l.set v ((row l v ||| 2 ^ w : Nat) : Int) := by
    rw [rd_nat, g.row_eq v hv, sShl w (by omega), bOr _ _ (b63 v hv) (p63 w hw)]
  refine ⟨(l.set v ((row l v ||| 2 ^ w : Nat) : Int)).set w ((row l w ||| 2 ^ v : Nat) : Int), ?_, ?_⟩
  · unfold spec_l02Join.f
    rw [if_pos (Int.natCast_nonneg _), if_pos (by omega), if_pos (Int.natCast_nonneg _), Option.bind_some, if_pos (by omega), Int.toNat_natCast, Int.toNat_natCast, e1, rd_nat, getD_set _ _ _ _ hv, if_neg (by omega), g.row_eq w hw, sShl v (by omega), bOr _ _ (b63 w hw) (p63 v hv)]
  · have hl : ((l.set v ((row l v ||| 2 ^ w : Nat) : Int)).set w ((row l w ||| 2 ^ v : Nat) : Int)).length = l.length := by rw [List.length_set, List.length_set]
    have hg : ∀ u, u < l.length → ((l.set v ((row l v ||| 2 ^ w : Nat) : Int)).set w ((row l w ||| 2 ^ v : Nat) : Int)).getD u 0 = ((if u = w then row l w ||| 2 ^ v else if u = v then row l v ||| 2 ^ w else row l u : Nat) : Int) := fun u hu => by
      rw [getD_set _ _ _ _ (by rw [List.length_set]; exact hw), getD_set _ _ _ _ hv]
      split
      · rfl
      · split
        · rfl
        · exact g.row_eq u hu
    have hb : ∀ u x, u < l.length → ((if u = w then row l w ||| 2 ^ v else if u = v then row l v ||| 2 ^ w else row l u : Nat)).testBit x = ((row l u).testBit x || (decide (u = w) && decide (v = x)) || (decide (u = v) && decide (w = x))) := fun u x hu => by
      by_cases c1 : u = w
      · subst c1; simp only [↓reduceIte, Nat.testBit_or, two_bit, decide_true, Bool.true_and, show ¬ u = v from fun h => hne h.symm, decide_false, Bool.false_and, Bool.or_false]
      · by_cases c2 : u = v
        · subst c2; simp only [c1, ↓reduceIte, Nat.testBit_or, two_bit, decide_true, Bool.true_and, decide_false, Bool.false_and, Bool.or_false]
        · simp only [c1, c2, ↓reduceIte, decide_false, Bool.false_and, Bool.or_false]
    have hs : ∀ u x, u < l.length → x < l.length → (row l u).testBit x = (row l x).testBit u := g.sym
    refine ⟨g.lo, g.hi, by rw [hl]; exact g.len, fun u hu => ?_, fun u hu => ?_, fun u hu => ?_, fun u x hu hx => ?_⟩
    · rw [hl] at hu; rw [hg u hu]; exact Int.natCast_nonneg _
    · rw [hl] at hu ⊢
      rw [hg u hu]
      have : (if u = w then row l w ||| 2 ^ v else if u = v then row l v ||| 2 ^ w else row l u : Nat) < 2 ^ l.length := by
        split
        · exact Nat.or_lt_two_pow (g.row_lt w hw) (Nat.pow_lt_pow_right (by decide) hv)
        · split
          · exact Nat.or_lt_two_pow (g.row_lt v hv) (Nat.pow_lt_pow_right (by decide) hw)
          · exact g.row_lt u hu
      exact_mod_cast this
    · rw [hl] at hu
      rw [hg u hu, Int.toNat_natCast, hb u u hu, show (row l u).testBit u = false from g.own u hu]
      simp only [Bool.false_or, Bool.or_eq_false_iff, Bool.and_eq_false_iff, decide_eq_false_iff_not]
      omega
    · rw [hl] at hu hx
      rw [hg u hu, hg x hx, Int.toNat_natCast, Int.toNat_natCast, hb u x hu, hb x u hx, hs u x hu hx, Bool.eq_iff_iff]
      simp only [Bool.or_eq_true, Bool.and_eq_true, decide_eq_true_eq]
      constructor <;> (rintro ((h | h) | h) <;> first | exact .inl (.inl h) | exact .inl (.inr ⟨h.2.symm, h.1.symm⟩) | exact .inr ⟨h.2.symm, h.1.symm⟩)
theorem draw_l1 (b : List Int) (hb : b.length ≤ 1048576) {n : Nat} : ∀ (d : Nat) (i h : Int) (l : List Int), d ≤ 5 → 0 ≤ i → i ≤ (b.length : Int) → GOk (n : Int) l → ∃ r : Int × List Int × Int × Int, Ev (fun k => spec_l02Draw.l1 k (n : Int) (d : Int) b i h (n : Int) l) r ∧ r.1 = (n : Int) ∧ GOk (n : Int) r.2.1
  | 0, i, h, l, hd, h0, h1, g => ⟨(n, l, i, h), Ev.here (fun k => by rw [spec_l02Draw.l1.eq_2, if_neg (by omega)]), rfl, g⟩
  | d + 1, i, h, l, hd, h0, h1, g => by
    have h8 := g.hi
    have hlo := g.lo
    have hlen := g.len
    obtain ⟨v, i2, hh2, e2, hv, hi2⟩ := below_ok b hb i h n h0 h1 (by omega) (by omega)
    obtain ⟨w, i3, hh3, e3, hw, hi3⟩ := below_ok b hb i2 hh2 n hi2.1 hi2.2 (by omega) (by omega)
    have ew : wrap64 (((d + 1 : Nat) : Int) - 1) = (d : Int) := by unfold wrap64; omega
    have c0 : ((d + 1 : Nat) : Int) > 0 := by omega
    by_cases c : v = w
    · obtain ⟨r, hr, hok⟩ := draw_l1 b hb d i3 hh3 l (by omega) hi3.1 hi3.2 g
      refine ⟨r, Ev.step (fun k => ?_) hr, hok⟩
      rw [spec_l02Draw.l1.eq_2, if_pos c0, e2, Option.bind_some, e3, Option.bind_some, if_pos c, ew]
    · obtain ⟨v, rfl⟩ : ∃ m : Nat, v = (m : Int) := ⟨v.toNat, by omega⟩
      obtain ⟨w, rfl⟩ : ∃ m : Nat, w = (m : Int) := ⟨w.toNat, by omega⟩
      obtain ⟨l', ej, g'⟩ := join_ok g n v w (by omega) (by omega) (by omega)
      obtain ⟨r, hr, hok⟩ := draw_l1 b hb d i3 hh3 l' (by omega) hi3.1 hi3.2 g'
      refine ⟨r, Ev.step (fun k => ?_) hr, hok⟩
      rw [spec_l02Draw.l1.eq_2, if_pos c0, e2, Option.bind_some, e3, Option.bind_some, if_neg c, ej, Option.bind_some, ew]
theorem draw_l0 (b : List Int) (hb : b.length ≤ 1048576) {n : Nat} : ∀ (d v : Nat) (i h : Int) (l : List Int), v + d = n → 1 ≤ v → 0 ≤ i → i ≤ (b.length : Int) → GOk (n : Int) l → ∃ r : Int × List Int × Int × Int, Ev (fun k => spec_l02Draw.l0 k (n : Int) (v : Int) b i h (n : Int) l) r ∧ r.1 = (n : Int) ∧ GOk (n : Int) r.2.1
  | 0, v, i, h, l, hd, hv1, h0, h1, g => by
    obtain ⟨q, i2, hh2, e2, hq, hi2⟩ := below_ok b hb i h 5 h0 h1 (by omega) (by omega)
    obtain ⟨q, rfl⟩ : ∃ m : Nat, q = (m : Int) := ⟨q.toNat, by omega⟩
    obtain ⟨r, hr, hok⟩ := draw_l1 b hb q i2 hh2 l (by omega) hi2.1 hi2.2 g
    refine ⟨r, Ev.step (fun k => ?_) hr, hok⟩
    rw [spec_l02Draw.l0.eq_2, if_neg (by omega), e2, Option.bind_some]
  | d + 1, v, i, h, l, hd, hv1, h0, h1, g => by
    have h8 := g.hi
    have hlen := g.len
    obtain ⟨q, i2, hh2, e2, hq, hi2⟩ := below_ok b hb i h 12 h0 h1 (by omega) (by omega)
    have eo : spec_l01Once.f b i h 12 = some (q == 0, i2, hh2) := by unfold spec_l01Once.f; rw [e2, Option.bind_some]
    have ew : wrap64 ((v : Int) + 1) = ((v + 1 : Nat) : Int) := wsucc v (by omega)
    have cv : (v : Int) < (n : Int) := by omega
    by_cases c : (q == 0) = true
    · obtain ⟨r, hr, hok⟩ := draw_l0 b hb d (v + 1) i2 hh2 l (by omega) (by omega) hi2.1 hi2.2 g
      refine ⟨r, Ev.step (fun k => ?_) hr, hok⟩
      rw [spec_l02Draw.l0.eq_2, if_pos cv, eo, Option.bind_some, if_pos c, ew]
    · obtain ⟨u, i3, hh3, e3, hu, hi3⟩ := below_ok b hb i2 hh2 v hi2.1 hi2.2 (by omega) (by omega)
      obtain ⟨u, rfl⟩ : ∃ m : Nat, u = (m : Int) := ⟨u.toNat, by omega⟩
      obtain ⟨l', ej, g'⟩ := join_ok g n u v (by omega) (by omega) (by omega)
      obtain ⟨r, hr, hok⟩ := draw_l0 b hb d (v + 1) i3 hh3 l' (by omega) (by omega) hi3.1 hi3.2 g'
      refine ⟨r, Ev.step (fun k => ?_) hr, hok⟩
      rw [spec_l02Draw.l0.eq_2, if_pos cv, eo, Option.bind_some, if_neg c, e3, Option.bind_some, ej, Option.bind_some, ew]
theorem empty_ok (n : Nat) (h1 : 1 ≤ n) (h8 : n ≤ 8) : spec_EmptyGraph.f (n : Int) = some ((n : Int), List.replicate n 0, true) ∧ GOk (n : Int) (List.replicate n 0) := by
  constructor
  · unfold spec_EmptyGraph.f spec_l01In.f
    rw [if_pos (by omega), Option.bind_some, if_pos (decide_eq_true (by omega)), if_pos (by omega), Int.toNat_natCast, if_pos (by omega)]
  · have hg : ∀ v, (List.replicate n (0 : Int)).getD v 0 = 0 := fun v => by
      rw [List.getD_eq_getElem?_getD, List.getElem?_replicate]; split <;> rfl
    exact ⟨by omega, by omega, by simp, fun v _ => by rw [hg]; exact Int.le_refl _, fun v _ => by rw [hg]; exact Int.pow_pos (by decide), fun v _ => by rw [hg]; simp, fun v w _ _ => by rw [hg, hg]; simp⟩
theorem draw_ok (b : List Int) (hb : b.length ≤ 1048576) (i h : Int) (most : Int) (h0 : 0 ≤ i) (h1 : i ≤ (b.length : Int)) (m0 : 1 ≤ most) (m8 : most ≤ 8) : ∃ r : Int × List Int × Int × Int, Ev (fun k => spec_l02Draw.f k b i h most) r ∧ r.1 ≤ most ∧ GOk r.1 r.2.1 := by
  obtain ⟨q, i2, hh2, e2, hq, hi2⟩ := below_ok b hb i h most h0 h1 (by omega) (by omega)
  obtain ⟨q, rfl⟩ : ∃ m : Nat, q = (m : Int) := ⟨q.toNat, by omega⟩
  have ew : wrap64 (1 + (q : Int)) = ((q + 1 : Nat) : Int) := by unfold wrap64; omega
  obtain ⟨ee, eg⟩ := empty_ok (q + 1) (by omega) (by omega)
  obtain ⟨r, hr, hok1, hok2⟩ := draw_l0 b hb q 1 i2 hh2 (List.replicate (q + 1) 0) (n := q + 1) (by omega) (by omega) hi2.1 hi2.2 eg
  refine ⟨r, ?_, by omega, hok1 ▸ hok2⟩
  have e : (fun k => spec_l02Draw.f k b i h most) = fun k => spec_l02Draw.l0 k ((q + 1 : Nat) : Int) ((1 : Nat) : Int) b i2 hh2 ((q + 1 : Nat) : Int) (List.replicate (q + 1) 0) := by
    funext k
    unfold spec_l02Draw.f
    rw [e2, Option.bind_some, ew, ee, Option.bind_some]; rfl
  rw [e]; exact hr
theorem new_l0 (b : List Int) (hb : b.length ≤ 1048576) : ∀ (d i : Nat) (h : Int), i + d = b.length → ∃ h', Ev (fun k => spec_l01New.l0 k b h (i : Int)) (b, 0, h')
  | 0, i, h, hi => ⟨h, Ev.here (fun k => by rw [spec_l01New.l0.eq_2, if_neg (by omega)])⟩
  | d + 1, i, h, hi => by
    by_cases c : (i : Int) < 4000
    · obtain ⟨h', hr⟩ := new_l0 b hb d (i + 1) (Go.bits .and .i64 (wrap64 ((wrap64 ((wrap64 (h * 137)) + (wrap64 (rd b (i : Int))))) + 7)) 1073741823) (by omega)
      refine ⟨h', Ev.step (fun k => ?_) hr⟩
      rw [spec_l01New.l0.eq_2, if_pos (by omega), if_pos c, if_pos (by omega), wsucc i (by omega)]
    · exact ⟨h, Ev.here (fun k => by rw [spec_l01New.l0.eq_2, if_pos (by omega), if_neg c])⟩
theorem go_ok (b : List Int) (hb : b.length ≤ 1048576) : ∀ (n : Nat) (i h : Int), 0 ≤ i → i ≤ (b.length : Int) → ∃ i' h', spec_l15New.go n b i h = some (b, i', h') ∧ 0 ≤ i' ∧ i' ≤ (b.length : Int)
  | 0, i, h, h0, h1 => ⟨i, h, rfl, h0, h1⟩
  | n + 1, i, h, h0, h1 => by
    obtain ⟨r, i2, h2, e, _, hi⟩ := byte_ok b hb i h h0 h1
    obtain ⟨i3, h3, e3, hi3⟩ := go_ok b hb n i2 h2 hi.1 hi.2
    refine ⟨i3, h3, ?_, hi3⟩
    rw [spec_l15New.go, e, Option.bind_some]; exact e3
theorem new15_ok (b : List Int) (hb : b.length ≤ 1048576) (n : Nat) (hn : n ≤ 1000000) : ∃ i' h', Ev (fun k => spec_l15New.f k b (n : Int)) (b, i', h') ∧ 0 ≤ i' ∧ i' ≤ (b.length : Int) := by
  obtain ⟨h', hr⟩ := new_l0 b hb b.length 0 (wrap64 (2125 + (b.length : Int))) (by omega)
  obtain ⟨i2, h2, e2, hi⟩ := go_ok b hb n 0 h' (by omega) (by omega)
  refine ⟨i2, h2, ?_, hi⟩
  have e : (fun k => spec_l15New.f k b (n : Int)) = fun k => (spec_l01New.f k b).bind fun s => spec_l15New.go n s.1 s.2.1 s.2.2 := by
    funext k; unfold spec_l15New.f; rw [if_pos (by omega), Int.toNat_natCast]
  rw [e]
  refine Ev.bind hr ?_
  rw [e2]; exact Ev.now _
/-- a code makes a valid graph -/
theorem make_ok (b : List Int) (hb : b.length ≤ 1048576) (j : Nat) (hj : j ≤ 1000000) (most : Int) (m0 : 1 ≤ most) (m8 : most ≤ 8) : ∃ (n : Nat) (l : List Int), Ev (fun k => spec_MakeGraph.f k b (j : Int) most) ((n : Int), l) ∧ (n : Int) ≤ most ∧ GOk (n : Int) l := by
  obtain ⟨i, h, e1, h0, h1⟩ := new15_ok b hb j hj
  obtain ⟨r, e2, hm, g⟩ := draw_ok b hb i h most h0 h1 m0 m8
  obtain ⟨n, hn⟩ : ∃ m : Nat, r.1 = (m : Int) := ⟨r.1.toNat, by have := g.lo; omega⟩
  refine ⟨n, r.2.1, ?_, by rw [← hn]; exact hm, by rw [← hn]; exact g⟩
  have em : mx 1 (mn most 8) = most := by unfold mx mn; split <;> split <;> omega
  refine Ev.bind e1 ?_
  rw [em]
  refine Ev.bind e2 ?_
  rw [hn]; exact Ev.now _
/-- a code makes a number -/
theorem num_ok (b : List Int) (hb : b.length ≤ 1048576) (j : Nat) (hj : j ≤ 1000000) : ∃ m : Nat, Ev (fun k => spec_MakeNum.f k b (j : Int)) (m : Int) ∧ m ≤ 65535 := by
  obtain ⟨i, h, e1, h0, h1⟩ := new15_ok b hb j hj
  obtain ⟨x, i2, h2, e2, hx, hi2⟩ := byte_ok b hb i h h0 h1
  obtain ⟨y, i3, h3, e3, hy, hi3⟩ := byte_ok b hb i2 h2 hi2.1 hi2.2
  refine ⟨(x * 256 + y).toNat, ?_, by omega⟩
  have ew : wrap64 (wrap64 (x * 256) + y) = ((x * 256 + y).toNat : Int) := by
    rw [Int.toNat_of_nonneg (by omega)]; unfold wrap64; omega
  refine Ev.bind e1 ?_
  simp only [e2, Option.bind_some, e3, ew]
  exact Ev.now _
end Go.Proofs.Ytilanbgciofkjaa.Pure
