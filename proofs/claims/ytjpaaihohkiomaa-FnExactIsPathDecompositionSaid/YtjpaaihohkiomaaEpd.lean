/- Path decompositions: both programs tell them alike. -/
import Derived.Test.YtjpaaihohkiomaaEints
import Derived.Test.YtjpaaihohkiomaaPAx17
import Derived.Test.YtjpaaihohkiomaaPAx18
import Derived.Test.YtjpaaihohkiomaaPAx19
import Derived.Test.YtjpaaihohkiomaaPAx20
namespace Go.Proofs.Ytjpaaihohkiomaa.Pure
open Go.RowKit Go.Proofs.YtjpaaihohkiomaaW.PrintWords Go.Proofs.YtjpaaihohkiomaaW.PrintLast Go.Proofs.Ytjpaaihohkiomaa.PA
set_option linter.unusedVariables false
set_option linter.unusedSimpArgs false
/-- how often v comes anew -/
def cnt (v : Nat) : Bool → List Int → Nat
  | _, [] => 0
  | p, b :: bs => (b.toNat.testBit v && !p).toNat + cnt v (b.toNat.testBit v) bs
/-- v doesn't come again when it is gone -/
def okV (v : Nat) : Bool → Bool → List Int → Bool
  | _, _, [] => true
  | s, g, b :: bs => !(b.toNat.testBit v && g) && okV v (s || b.toNat.testBit v) (g || (s && !b.toNat.testBit v)) bs
theorem cnt_two (v : Nat) : ∀ bs, cnt v false bs = 0 ↔ okV v true true bs = true
  | [] => by simp [cnt, okV]
  | b :: bs => by
    have ih := cnt_two v bs
    cases hb : b.toNat.testBit v with
    | false => simp [cnt, okV, hb, ih]
    | true => simp [cnt, okV, hb]
theorem cnt_one (v : Nat) : ∀ bs, cnt v true bs = 0 ↔ okV v true false bs = true
  | [] => by simp [cnt, okV]
  | b :: bs => by
    have ih := cnt_one v bs
    have h2 := cnt_two v bs
    cases hb : b.toNat.testBit v with
    | false => simp [cnt, okV, hb, h2]
    | true => simp [cnt, okV, hb, ih]
theorem cnt_zero (v : Nat) : ∀ bs, cnt v false bs = 1 ↔ (okV v false false bs = true ∧ ∃ b ∈ bs, b.toNat.testBit v = true)
  | [] => by simp [cnt]
  | b :: bs => by
    have ih := cnt_zero v bs
    have h1 := cnt_one v bs
    cases hb : b.toNat.testBit v with
    | false => simp [cnt, okV, hb, ih]
    | true => simp [cnt, okV, hb, ← h1]
/-- the reference's test on the bags in their order -/
def okS : Nat → Nat → List Int → Bool
  | _, _, [] => true
  | s, g, b :: bs => decide (b.toNat &&& g = 0) && okS (s ||| b.toNat) (g ||| dif s b.toNat) bs
theorem and_zero_iff (a b : Nat) : a &&& b = 0 ↔ ∀ i, (a.testBit i && b.testBit i) = false := by
  constructor
  · intro h i; rw [← Nat.testBit_and, h, Nat.zero_testBit]
  · intro h
    apply Nat.eq_of_testBit_eq
    intro i
    rw [Nat.testBit_and, h i, Nat.zero_testBit]
theorem okS_iff : ∀ (bs : List Int) (s g : Nat), okS s g bs = true ↔ ∀ v, okV v (s.testBit v) (g.testBit v) bs = true
  | [], s, g => by simp [okS, okV]
  | b :: bs, s, g => by
    have ih := okS_iff bs (s ||| b.toNat) (g ||| dif s b.toNat)
    unfold okS
    rw [Bool.and_eq_true, decide_eq_true_eq, ih, and_zero_iff]
    constructor
    · intro h v
      unfold okV
      have h2 := h.2 v
      rw [Nat.testBit_or, Nat.testBit_or, dif_bit] at h2
      rw [h.1 v, h2]; rfl
    · intro h
      refine ⟨fun i => ?_, fun v => ?_⟩
      · have := h i
        unfold okV at this
        rw [Bool.and_eq_true] at this
        have h1 := this.1
        cases hx : b.toNat.testBit i <;> cases hy : g.testBit i <;> simp_all
      · have := h v
        unfold okV at this
        rw [Bool.and_eq_true] at this
        rw [Nat.testBit_or, Nat.testBit_or, dif_bit]; exact this.2
/-- what lies in one bag with v -/
def withN (v : Nat) (bs : List Int) : Nat := orOver bs (fun b => if b.toNat.testBit v then b.toNat else 0) 0
theorem withN_self (v : Nat) (bs : List Int) : (withN v bs).testBit v = true ↔ ∃ b ∈ bs, b.toNat.testBit v = true := by
  unfold withN
  rw [orOver_bit, Nat.zero_testBit, Bool.false_or, List.any_eq_true]
  constructor
  · rintro ⟨b, hb, h⟩
    refine ⟨b, hb, ?_⟩
    split at h
    · assumption
    · simp at h
  · rintro ⟨b, hb, h⟩
    exact ⟨b, hb, by rw [if_pos h]; exact h⟩
theorem withN_lt (v m : Nat) (bs : List Int) (h : ∀ b ∈ bs, b.toNat < 2 ^ m) : withN v bs < 2 ^ m :=
  orOver_lt _ _ _ _ (Nat.two_pow_pos _) (fun b hb => by
    show (if b.toNat.testBit v then b.toNat else 0) < _
    split
    · exact h b hb
    · exact Nat.two_pow_pos _)
theorem withN_snoc (v : Nat) (bs : List Int) (b : Int) : withN v (bs ++ [b]) = withN v bs ||| (if b.toNat.testBit v then b.toNat else 0) := by
  unfold withN orOver; rw [List.foldl_append]; rfl
def inR (n : Nat) (bs : List Int) : Prop := ∀ b ∈ bs, 0 ≤ b ∧ b < ((2 ^ n : Nat) : Int)
def edgesN (l bs : List Int) : Prop := ∀ v, v < l.length → dif (row l v) (withN v bs) = 0
structure PD (n : Int) (l bs : List Int) : Prop where
  g : GOk n l
  len : bs.length ≤ 20
  inr : inR l.length bs
  once : ∀ v, v < l.length → cnt v false bs = 1
  edges : edgesN l bs
theorem dif_zero' (a b : Nat) : dif a b = 0 ↔ ∀ i, a.testBit i = true → b.testBit i = true := by
  constructor
  · intro h i ha
    have := dif_bit a b i
    rw [h, ha, Nat.zero_testBit] at this
    simpa using this.symm
  · intro h
    apply Nat.eq_of_testBit_eq
    intro i
    rw [dif_bit, Nat.zero_testBit]
    cases ha : a.testBit i with
    | false => rfl
    | true => rw [h i ha]; rfl
theorem okV_none (v : Nat) : ∀ (bs : List Int) (s g : Bool), (∀ b ∈ bs, b.toNat.testBit v = false) → okV v s g bs = true
  | [], _, _, _ => rfl
  | b :: bs, s, g, h => by
    unfold okV
    rw [h b List.mem_cons_self, Bool.false_and, okV_none v bs _ _ (fun c hc => h c (List.mem_cons_of_mem _ hc))]; rfl
/-- the reference's test says the same -/
theorem pd_iff {n : Int} {l bs : List Int} (g : GOk n l) (hlen : bs.length ≤ 20) (hr : inR l.length bs) : PD n l bs ↔ (okS 0 0 bs = true ∧ ∀ v, v < l.length → dif (row l v ||| 2 ^ v) (withN v bs) = 0) := by
  have hb : ∀ b ∈ bs, b.toNat < 2 ^ l.length := fun b h => by have := hr b h; omega
  have split2 : ∀ v, dif (row l v ||| 2 ^ v) (withN v bs) = 0 ↔ (dif (row l v) (withN v bs) = 0 ∧ ∃ b ∈ bs, b.toNat.testBit v = true) := by
    intro v
    rw [← withN_self, dif_zero', dif_zero']
    constructor
    · intro h
      exact ⟨fun i hi => h i (by rw [Nat.testBit_or, hi]; rfl), h v (by rw [Nat.testBit_or, two_bit]; simp)⟩
    · intro h i hi
      rw [Nat.testBit_or, two_bit, Bool.or_eq_true, decide_eq_true_eq] at hi
      rcases hi with hi | hi
      · exact h.1 i hi
      · subst hi; exact h.2
  constructor
  · intro p
    refine ⟨(okS_iff bs 0 0).2 (fun v => ?_), fun v hv => (split2 v).2 ⟨p.edges v hv, ((cnt_zero v bs).1 (p.once v hv)).2⟩⟩
    rw [Nat.zero_testBit]
    by_cases hv : v < l.length
    · exact ((cnt_zero v bs).1 (p.once v hv)).1
    · exact okV_none v bs _ _ (fun b hbm => bit_lt _ l.length v (hb b hbm) (by omega))
  · intro h
    refine ⟨g, hlen, hr, fun v hv => (cnt_zero v bs).2 ⟨?_, ((split2 v).1 (h.2 v hv)).2⟩, fun v hv => ((split2 v).1 (h.2 v hv)).1⟩
    have := (okS_iff bs 0 0).1 h.1 v
    rwa [Nat.zero_testBit] at this
theorem inR_at {n : Nat} {bs : List Int} (hr : inR n bs) (i : Nat) (hi : i < bs.length) : ∃ b : Nat, bs.getD i 0 = (b : Int) ∧ b < 2 ^ n := by
  have := hr _ (getD_mem bs i hi)
  exact ⟨(bs.getD i 0).toNat, by omega, by omega⟩
theorem take_snoc' (L : List Int) (i : Nat) (h : i < L.length) : L.take (i + 1) = L.take i ++ [L.getD i 0] := by
  rw [List.take_succ_eq_append_getElem h]; simp [List.getD_eq_getElem?_getD, List.getElem?_eq_getElem h]
theorem edges_l1 {n : Int} {l : List Int} (g : GOk n l) (bs : List Int) (hlen : bs.length ≤ 20) (hr : inR l.length bs) (v : Nat) (hv : v < l.length) (r : Bool)
    (h1 : dif (row l v ||| 2 ^ v) (withN v bs) = 0 → Ev (fun k => spec_l09Edges.l0 k bs l (l.length : Int) ((v + 1 : Nat) : Int)) r) (h2 : ¬ dif (row l v ||| 2 ^ v) (withN v bs) = 0 → r = false) :
    ∀ d i, i + d = bs.length → Ev (fun k => spec_l09Edges.l1 k bs (v : Int) (l.getD v 0) (withN v (bs.take i) : Int) l (l.length : Int) (v : Int) bs (bs.length : Int) (i : Int)) r
  | 0, i, hi => by
    have h8 := g.len8
    have p8 := pow8 _ h8
    have hrl := g.row_lt8 v hv
    have h2v : (2 : Nat) ^ v < 2 ^ 62 := Nat.pow_lt_pow_right (by decide) (by omega)
    have hw := withN_lt v l.length bs (fun b h => by have := hr b h; omega)
    have ho : row l v ||| 2 ^ v < 2 ^ 62 := Nat.or_lt_two_pow (by omega) h2v
    obtain rfl : i = bs.length := by omega
    rw [List.take_length]
    have step : ∀ k, spec_l09Edges.l1 (k + 1) bs (v : Int) (l.getD v 0) (withN v bs : Int) l (l.length : Int) (v : Int) bs (bs.length : Int) (bs.length : Int) = if dif (row l v ||| 2 ^ v) (withN v bs) = 0 then spec_l09Edges.l0 k bs l (l.length : Int) ((v + 1 : Nat) : Int) else some false := by
      intro k
      rw [spec_l09Edges.l1.eq_2, if_neg (by omega), if_pos (by omega), g.row_eq v hv, sShl v (by omega), bOr _ _ (by omega) (by omega), bDif _ _ (by omega) (by omega), wsucc v (by omega)]
      by_cases hz : dif (row l v ||| 2 ^ v) (withN v bs) = 0
      · rw [if_pos (by omega), if_pos hz]
      · rw [if_neg (by omega), if_neg hz]
    by_cases hz : dif (row l v ||| 2 ^ v) (withN v bs) = 0
    · exact Ev.step (fun k => by rw [step k, if_pos hz]) (h1 hz)
    · rw [h2 hz]
      exact Ev.here (fun k => by rw [step k, if_neg hz])
  | d + 1, i, hi => by
    have h8 := g.len8
    have p8 := pow8 _ h8
    obtain ⟨b, hb, hbl⟩ := inR_at hr i (by omega)
    have hw := withN_lt v l.length (bs.take i) (fun b h => by have := hr b (List.mem_of_mem_take h); omega)
    refine Ev.step (fun k => ?_) (edges_l1 g bs hlen hr v hv r h1 h2 d (i + 1) (by omega))
    rw [spec_l09Edges.l1.eq_2, if_pos (by omega), if_pos (by omega), if_pos (by omega), rd_nat, hb, has_spec _ v (by omega) (by omega), Option.bind_some, wsucc i (by omega), take_snoc' bs i (by omega), withN_snoc, hb, Int.toNat_natCast]
    cases hbit : b.testBit v with
    | true => rw [if_pos rfl, if_pos rfl, bOr _ _ (by omega) (by omega)]
    | false => rw [if_neg (by simp), if_neg (by simp), Nat.or_zero]
open Classical in
theorem edges_spec {n : Int} {l : List Int} (g : GOk n l) (bs : List Int) (hlen : bs.length ≤ 20) (hr : inR l.length bs) : Ev (fun k => spec_l09Edges.f k n l bs) (decide (∀ v, v < l.length → dif (row l v ||| 2 ^ v) (withN v bs) = 0)) := by
  have h8 := g.len8
  have main : ∀ (r : Bool), ((∀ v, v < l.length → dif (row l v ||| 2 ^ v) (withN v bs) = 0) → r = true) → (¬ (∀ v, v < l.length → dif (row l v ||| 2 ^ v) (withN v bs) = 0) → r = false) →
      ∀ d v, v + d = l.length → (∀ u, u < v → dif (row l u ||| 2 ^ u) (withN u bs) = 0) → Ev (fun k => spec_l09Edges.l0 k bs l (l.length : Int) (v : Int)) r := by
    intro r ht hf d
    induction d with
    | zero =>
      intro v hv hu
      obtain rfl : v = l.length := by omega
      rw [ht hu]
      exact Ev.here (fun k => by rw [spec_l09Edges.l0.eq_2, if_neg (by omega)])
    | succ d ih =>
      intro v hv hu
      refine Ev.step (fun k => ?_) (edges_l1 g bs hlen hr v (by omega) r (fun hz => ih (v + 1) (by omega) (fun u h => if e : u = v then by rw [e]; exact hz else hu u (by omega))) (fun hz => hf (fun hall => hz (hall v (by omega)))) bs.length 0 (by omega))
      rw [spec_l09Edges.l0.eq_2, if_pos (by omega), if_pos (by omega), if_pos (by omega), rd_nat]; rfl
  exact main _ (fun h => decide_eq_true h) (fun h => decide_eq_false h) l.length 0 (by omega) (fun u h => absurd h (Nat.not_lt_zero _))
theorem okS_lt (n : Nat) (s b : Nat) (hs : s < 2 ^ n) (hb : b < 2 ^ n) : s ||| b < 2 ^ n := Nat.or_lt_two_pow hs hb
open Classical in
theorem pd_spec_l0 {n : Int} {l : List Int} (g : GOk n l) (bs : List Int) (hlen : bs.length ≤ 20) : ∀ (d i s t : Nat), i + d = bs.length → s < 2 ^ l.length → t < 2 ^ l.length → (∀ j, j < i → 0 ≤ bs.getD j 0 ∧ bs.getD j 0 < ((2 ^ l.length : Nat) : Int)) →
    Ev (fun k => spec_IsPathDecomposition.l0 k bs (s : Int) (t : Int) bs (bs.length : Int) (i : Int) n l) (decide (inR l.length (bs.drop i) ∧ okS s t (bs.drop i) = true ∧ ∀ v, v < l.length → dif (row l v ||| 2 ^ v) (withN v bs) = 0))
  | 0, i, s, t, hi, hs, ht, hj => by
    have hr : inR l.length bs := by
      intro b hb
      obtain ⟨j, hjl, rfl⟩ := List.getElem_of_mem hb
      have := hj j (by omega)
      simpa [List.getD_eq_getElem?_getD, List.getElem?_eq_getElem hjl] using this
    obtain rfl : i = bs.length := by omega
    rw [List.drop_length]
    have e : (inR l.length [] ∧ okS s t [] = true ∧ ∀ v, v < l.length → dif (row l v ||| 2 ^ v) (withN v bs) = 0) ↔ (∀ v, v < l.length → dif (row l v ||| 2 ^ v) (withN v bs) = 0) :=
      ⟨fun h => h.2.2, fun h => ⟨fun b hb => (List.not_mem_nil hb).elim, rfl, h⟩⟩
    rw [decide_eq_decide.2 e]
    refine Ev.step (fun k => ?_) (Ev.bind (edges_spec g bs hlen hr) (Ev.now _))
    rw [spec_IsPathDecomposition.l0.eq_2, if_neg (by omega)]
  | d + 1, i, s, t, hi, hs, ht, hj => by
    have hn := g.len
    have h8 := g.len8
    have p8 := pow8 _ h8
    rw [drop_cons bs i (by omega)]
    have head : ∀ k, spec_IsPathDecomposition.l0 (k + 1) bs (s : Int) (t : Int) bs (bs.length : Int) (i : Int) n l = if decide (0 ≤ bs.getD i 0 ∧ bs.getD i 0 ≤ ((2 ^ l.length : Nat) : Int) - 1) = true then (if Go.bits .and .i64 (bs.getD i 0) (t : Int) = 0 then spec_IsPathDecomposition.l0 k bs (Go.bits .or .i64 (s : Int) (bs.getD i 0)) (Go.bits .or .i64 (t : Int) (Go.bits .andNot .i64 (s : Int) (bs.getD i 0))) bs (bs.length : Int) ((i + 1 : Nat) : Int) n l else some false) else some false := by
      intro k
      rw [spec_IsPathDecomposition.l0.eq_2, if_pos (by omega), if_pos (by omega), if_pos (by omega), if_pos (by omega), rd_nat]
      conv => lhs; rw [show shl .i64 1 n = ((2 ^ l.length : Nat) : Int) from by rw [← hn]; exact sShl _ (by omega), two_wrap _ (by omega), in_spec, Option.bind_some]
      rw [wsucc i (by omega)]
    by_cases hin : 0 ≤ bs.getD i 0 ∧ bs.getD i 0 < ((2 ^ l.length : Nat) : Int)
    · obtain ⟨b, hb⟩ : ∃ b : Nat, bs.getD i 0 = (b : Int) := ⟨(bs.getD i 0).toNat, by omega⟩
      rw [hb] at hin head ⊢
      have hbl : b < 2 ^ l.length := by omega
      have hd : decide (0 ≤ (b : Int) ∧ (b : Int) ≤ ((2 ^ l.length : Nat) : Int) - 1) = true := by rw [decide_eq_true_eq]; omega
      have hdl : dif s b < 2 ^ l.length := Nat.lt_of_le_of_lt Nat.and_le_left hs
      by_cases hz : b &&& t = 0
      · have ih := pd_spec_l0 g bs hlen d (i + 1) (s ||| b) (t ||| dif s b) (by omega) (okS_lt _ _ _ hs hbl) (okS_lt _ _ _ ht hdl) (fun j h => if e : j = i then by rw [e, hb]; exact hin else hj j (by omega))
        have e : (inR l.length ((b : Int) :: bs.drop (i + 1)) ∧ okS s t ((b : Int) :: bs.drop (i + 1)) = true ∧ ∀ v, v < l.length → dif (row l v ||| 2 ^ v) (withN v bs) = 0) ↔ (inR l.length (bs.drop (i + 1)) ∧ okS (s ||| b) (t ||| dif s b) (bs.drop (i + 1)) = true ∧ ∀ v, v < l.length → dif (row l v ||| 2 ^ v) (withN v bs) = 0) := by
          have e1 : inR l.length ((b : Int) :: bs.drop (i + 1)) ↔ inR l.length (bs.drop (i + 1)) :=
            ⟨fun h c hc => h c (List.mem_cons_of_mem _ hc), fun h c hc => by rcases List.mem_cons.1 hc with rfl | hc; exact hin; exact h c hc⟩
          have e2 : okS s t ((b : Int) :: bs.drop (i + 1)) = okS (s ||| b) (t ||| dif s b) (bs.drop (i + 1)) := by
            show (decide (((b : Int)).toNat &&& t = 0) && okS (s ||| ((b : Int)).toNat) (t ||| dif s ((b : Int)).toNat) (bs.drop (i + 1))) = _
            rw [Int.toNat_natCast, decide_eq_true hz, Bool.true_and]
          rw [e1, e2]
        rw [decide_eq_decide.2 e]
        refine Ev.step (fun k => ?_) ih
        rw [head k, if_pos hd, bAnd _ _ (by omega) (by omega), if_pos (by omega), bOr _ _ (by omega) (by omega), bDif _ _ (by omega) (by omega), bOr _ _ (by omega) (by omega)]
      · rw [decide_eq_false (fun h => by
          have h2 := h.2.1
          have : (decide (((b : Int)).toNat &&& t = 0) && okS (s ||| ((b : Int)).toNat) (t ||| dif s ((b : Int)).toNat) (bs.drop (i + 1))) = true := h2
          rw [Int.toNat_natCast, decide_eq_false hz, Bool.false_and] at this
          cases this)]
        refine Ev.here (fun k => ?_)
        rw [head k, if_pos hd, bAnd _ _ (by omega) (by omega), if_neg (by omega)]
    · rw [decide_eq_false (fun h => hin (h.1 _ List.mem_cons_self))]
      refine Ev.here (fun k => ?_)
      have hd : decide (0 ≤ bs.getD i 0 ∧ bs.getD i 0 ≤ ((2 ^ l.length : Nat) : Int) - 1) = false := by rw [decide_eq_false_iff_not]; omega
      rw [head k, hd, if_neg (by simp)]
open Classical in
theorem pd_spec (n : Int) (l bs : List Int) (hL : bs.length ≤ 1000000) : Ev (fun k => spec_IsPathDecomposition.f k n l bs) (decide (PD n l bs)) := by
  by_cases g : GOk n l
  · refine Ev.bind (graph_spec_t g) ?_
    simp only [↓reduceIte]
    by_cases hl : bs.length ≤ 20
    · have hd : decide ((bs.length : Int) > 20) = false := by rw [decide_eq_false_iff_not]; omega
      simp only [hd]
      have h := pd_spec_l0 g bs hl bs.length 0 0 0 (by omega) (Nat.two_pow_pos _) (Nat.two_pow_pos _) (fun j h => absurd h (Nat.not_lt_zero _))
      rw [List.drop_zero] at h
      have e : (inR l.length bs ∧ okS 0 0 bs = true ∧ ∀ v, v < l.length → dif (row l v ||| 2 ^ v) (withN v bs) = 0) ↔ PD n l bs :=
        ⟨fun h => (pd_iff g hl h.1).2 h.2, fun h => ⟨h.inr, (pd_iff g hl h.inr).1 h⟩⟩
      rw [decide_eq_decide.2 e] at h
      refine Ev.step (fun k => ?_) h
      rw [spec_IsPathDecomposition.j0.eq_2, if_neg (by simp)]; rfl
    · have hd : decide ((bs.length : Int) > 20) = true := by rw [decide_eq_true_eq]; omega
      simp only [hd]
      rw [decide_eq_false (fun h => hl h.len)]
      exact Ev.here (fun k => by rw [spec_IsPathDecomposition.j0.eq_2, if_pos rfl])
  · refine Ev.bind (graph_spec_f g) ?_
    simp only [↓reduceIte, Bool.false_eq_true]
    rw [decide_eq_false (fun h => g h.g)]
    exact Ev.here (fun k => by rw [spec_IsPathDecomposition.j0.eq_2, if_pos rfl])
/-- the list of what lies together with each vertex -/
def Tg (l : List Int) (f : Nat → Nat) (T : List Int) : Prop := T.length = l.length ∧ ∀ v, v < l.length → T.getD v 0 = (f v : Int) ∧ f v < 2 ^ l.length
theorem Tg_set {l : List Int} {f : Nat → Nat} {T : List Int} (h : Tg l f T) (v : Nat) (hv : v < l.length) (x : Nat) (hx : x < 2 ^ l.length) : Tg l (fun u => if u = v then x else f u) (T.set v (x : Int)) := by
  refine ⟨by rw [List.length_set]; exact h.1, fun u hu => ?_⟩
  have hT := h.1
  by_cases e : u = v
  · subst e
    show _ = (((if u = u then x else f u : Nat)) : Int) ∧ (if u = u then x else f u) < _
    rw [if_pos rfl]
    refine ⟨?_, hx⟩
    simp [List.getD_eq_getElem?_getD, List.getElem?_set_self (show u < T.length by omega)]
  · show _ = (((if u = v then x else f u : Nat)) : Int) ∧ (if u = v then x else f u) < _
    rw [if_neg e]
    have := h.2 u hu
    rw [List.getD_eq_getElem?_getD, List.getElem?_set_ne (fun h => e h.symm), ← List.getD_eq_getElem?_getD]
    exact this
theorem Tg_ext {l : List Int} {f g : Nat → Nat} {T : List Int} (h : Tg l f T) (e : ∀ v, v < l.length → f v = g v) : Tg l g T :=
  ⟨h.1, fun v hv => by rw [← e v hv]; exact h.2 v hv⟩
/-- one bag: it is put together with each of its vertices -/
theorem bags_l1 {n : Int} {l : List Int} (g : GOk n l) (bs : List Int) (hlen : bs.length ≤ 20) (b i : Nat) (hi : i < bs.length) (hb : b < 2 ^ l.length) (f : Nat → Nat) (r : Bool)
    (h1 : ∀ T, Tg l (fun v => if b.testBit v then f v ||| b else f v) T → Ev (fun k => impl_Graph_areBags.l0 k T bs (bs.length : Int) ((i + 1 : Nat) : Int) n l) r) :
    ∀ (d j : Nat) (T : List Int), j + d = (elems b).length → Tg l (fun v => if (v : Int) ∈ (elems b).take j then f v ||| b else f v) T →
      Ev (fun k => impl_Graph_areBags.l1 k T (b : Int) bs (bs.length : Int) (i : Int) (elems b) ((elems b).length : Int) (j : Int) n l) r
  | 0, j, T, hj, hT => by
    obtain rfl : j = (elems b).length := by omega
    rw [List.take_length] at hT
    have hlb := elems_len b
    refine Ev.step (fun k => ?_) (h1 T (Tg_ext hT (fun v hv => ?_)))
    · rw [impl_Graph_areBags.l1.eq_2, if_neg (by omega), wsucc i (by omega)]
    · have e : ((v : Int) ∈ elems b) ↔ b.testBit v = true := by
        rw [mem_elems]
        constructor
        · rintro ⟨u, e, _, h⟩; rwa [show v = u by omega]
        · intro h; exact ⟨v, rfl, by have := g.len8; omega, h⟩
      show (if (v : Int) ∈ elems b then f v ||| b else f v) = (if b.testBit v = true then f v ||| b else f v)
      by_cases h : b.testBit v = true
      · rw [if_pos (e.2 h), if_pos h]
      · rw [if_neg (fun h2 => h (e.1 h2)), if_neg h]
  | d + 1, j, T, hj, hT => by
    have hlb := elems_len b
    have h8 := g.len8
    have p8 := pow8 _ h8
    obtain ⟨v, hv, hvl, hbv⟩ := elems_vert hb _ (getD_mem (elems b) j (by omega))
    have hTv := hT.2 v hvl
    have hnew : (if (v : Int) ∈ (elems b).take j then f v ||| b else f v) ||| b < 2 ^ l.length := Nat.or_lt_two_pow hTv.2 hb
    have ih := bags_l1 g bs hlen b i hi hb f r h1 d (j + 1) (T.set v (((if (v : Int) ∈ (elems b).take j then f v ||| b else f v) ||| b : Nat) : Int)) (by omega)
      (Tg_ext (Tg_set hT v hvl _ hnew) (fun u hu => by
        rw [take_snoc' _ j (by omega), hv]
        by_cases e : u = v
        · subst e
          have hm : (u : Int) ∈ (elems b).take j ++ [(u : Int)] := by simp
          show (if u = u then ((if (u : Int) ∈ (elems b).take j then f u ||| b else f u) ||| b) else _) = (if (u : Int) ∈ (elems b).take j ++ [(u : Int)] then f u ||| b else f u)
          rw [if_pos hm, if_pos rfl]
          split
          · rw [Nat.or_assoc, Nat.or_self]
          · rfl
        · show (if u = v then _ else (if (u : Int) ∈ (elems b).take j then f u ||| b else f u)) = (if (u : Int) ∈ (elems b).take j ++ [(v : Int)] then f u ||| b else f u)
          rw [if_neg e]
          have : ((u : Int) ∈ (elems b).take j ++ [(v : Int)]) ↔ (u : Int) ∈ (elems b).take j := by
            rw [List.mem_append, List.mem_singleton]
            exact ⟨fun h => h.elim id (fun h => absurd (by omega : u = v) e), .inl⟩
          simp only [this]))
    refine Ev.step (fun k => ?_) ih
    have hTl := hT.1
    rw [impl_Graph_areBags.l1.eq_2, if_pos (by omega), if_pos (by omega), if_pos (by omega), rd_nat, hv, if_pos (by omega), if_pos (by omega), rd_nat, hTv.1, bOr _ _ (by omega) (by omega), Int.toNat_natCast, wsucc j (by omega)]
theorem bags_l2 {n : Int} {l : List Int} (g : GOk n l) (f : Nat → Nat) (T : List Int) (hT : Tg l f T) : Ev (fun k => impl_Graph_areBags.l2 k T l (l.length : Int) (0 : Int)) (decide (∀ v, v < l.length → dif (row l v) (f v) = 0)) := by
  have h8 := g.len8
  have p8 := pow8 _ h8
  have hTl := hT.1
  have step : ∀ v k, v < l.length → impl_Graph_areBags.l2 (k + 1) T l (l.length : Int) (v : Int) = if dif (row l v) (f v) = 0 then impl_Graph_areBags.l2 k T l (l.length : Int) ((v + 1 : Nat) : Int) else some false := by
    intro v k hv
    have hTv := hT.2 v hv
    have hrl := g.row_lt8 v hv
    rw [impl_Graph_areBags.l2.eq_2, if_pos (by omega), if_pos (by omega), if_pos (by omega), if_pos (by omega), rd_nat, rd_nat, g.row_eq v hv, hTv.1, bDif _ _ (by omega) (by omega), wsucc v (by omega)]
    by_cases hz : dif (row l v) (f v) = 0
    · rw [if_pos (by omega), if_pos hz]
    · rw [if_neg (by omega), if_neg hz]
  refine Ev_all (fun k i => impl_Graph_areBags.l2 k T l (l.length : Int) (i : Int)) l.length (fun v => decide (dif (row l v) (f v) = 0)) false true _ (fun i k hi _ hp => ?_) (fun i k hi _ hp => ?_) (fun hall => ?_) (fun hno => ?_) l.length 0 (by omega) (fun j hj => by omega)
  · rw [step i k hi, if_pos (of_decide_eq_true hp)]
  · rw [step i k hi, if_neg (of_decide_eq_false hp)]
  · rw [decide_eq_true (fun v hv => of_decide_eq_true (hall v hv))]
    exact Ev.here (fun k => by rw [impl_Graph_areBags.l2.eq_2, if_neg (by omega)])
  · rw [decide_eq_false (fun h => hno (fun v hv => decide_eq_true (h v hv)))]
open Classical in
theorem bags_l0 {n : Int} {l : List Int} (g : GOk n l) (bs : List Int) (hlen : bs.length ≤ 20) : ∀ (d i : Nat) (T : List Int), i + d = bs.length → inR l.length (bs.take i) → Tg l (fun v => withN v (bs.take i)) T →
    Ev (fun k => impl_Graph_areBags.l0 k T bs (bs.length : Int) (i : Int) n l) (decide (inR l.length bs ∧ edgesN l bs))
  | 0, i, T, hi, hr, hT => by
    obtain rfl : i = bs.length := by omega
    rw [List.take_length] at hr hT
    have h := bags_l2 g _ T hT
    have e : (∀ v, v < l.length → dif (row l v) (withN v bs) = 0) ↔ (inR l.length bs ∧ edgesN l bs) := ⟨fun h => ⟨hr, h⟩, fun h => h.2⟩
    rw [← decide_eq_decide.2 e]
    refine ⟨h.choose + 1, fun k hk => ?_⟩
    obtain ⟨k, rfl⟩ : ∃ j, k = j + 1 := ⟨k - 1, by omega⟩
    show impl_Graph_areBags.l0 (k + 1) _ _ _ _ _ _ = _
    rw [impl_Graph_areBags.l0.eq_2, if_neg (by omega)]
    refine (h.choose_spec k (by omega)).trans ?_
    congr 1
  | d + 1, i, T, hi, hr, hT => by
    have hn := g.len
    have h8 := g.len8
    have p8 := pow8 _ h8
    have hall : impl_Graph_all.f n l = some (((2 ^ l.length : Nat) : Int) - 1) := by rw [← hn, all_impl _ _ (by omega)]
    by_cases hin : 0 ≤ bs.getD i 0 ∧ bs.getD i 0 < ((2 ^ l.length : Nat) : Int)
    · obtain ⟨b, hb⟩ : ∃ b : Nat, bs.getD i 0 = (b : Int) := ⟨(bs.getD i 0).toNat, by omega⟩
      rw [hb] at hin
      have hbl : b < 2 ^ l.length := by omega
      have hd : decide (0 ≤ (b : Int) ∧ (b : Int) ≤ ((2 ^ l.length : Nat) : Int) - 1) = true := by rw [decide_eq_true_eq]; omega
      have inner := bags_l1 g bs hlen b i (by omega) hbl (fun v => withN v (bs.take i)) (decide (inR l.length bs ∧ edgesN l bs)) (fun T' hT' => bags_l0 g bs hlen d (i + 1) T' (by omega) (fun c hc => by
          rw [take_snoc' bs i (by omega), List.mem_append, List.mem_singleton] at hc
          rcases hc with hc | hc
          · exact hr c hc
          · rw [hc, hb]; exact hin) (Tg_ext hT' (fun v hv => by
          rw [take_snoc' bs i (by omega), withN_snoc, hb, Int.toNat_natCast]
          cases hbit : b.testBit v with
          | true => rfl
          | false => rw [if_neg (by simp), if_neg (by simp), Nat.or_zero]))) (elems b).length 0 T (by omega) (Tg_ext hT (fun v hv => by rw [List.take_zero, if_neg List.not_mem_nil]))
      refine Ev.step (fun k => ?_) (Ev.bind (f := fun k t => impl_Graph_areBags.l1 k T (b : Int) bs (bs.length : Int) (i : Int) t (t.length : Int) 0 n l) (list_impl b (by omega)) inner)
      rw [impl_Graph_areBags.l0.eq_2, if_pos (by omega), if_pos (by omega), if_pos (by omega), hall, Option.bind_some, rd_nat, hb, in_impl, hd, Option.bind_some, if_pos rfl]
    · have hd : decide (0 ≤ bs.getD i 0 ∧ bs.getD i 0 ≤ ((2 ^ l.length : Nat) : Int) - 1) = false := by rw [decide_eq_false_iff_not]; omega
      rw [decide_eq_false (fun h => hin (h.1 _ (getD_mem bs i (by omega))))]
      refine Ev.here (fun k => ?_)
      rw [impl_Graph_areBags.l0.eq_2, if_pos (by omega), if_pos (by omega), if_pos (by omega), hall, Option.bind_some, rd_nat, in_impl, hd, Option.bind_some, if_neg (by simp)]
open Classical in
theorem bags_impl {n : Int} {l : List Int} (g : GOk n l) (bs : List Int) (hlen : bs.length ≤ 20) : Ev (fun k => impl_Graph_areBags.f k n l bs) (decide (inR l.length bs ∧ edgesN l bs)) := by
  have hn := g.len
  have h8 := g.len8
  have h := bags_l0 g bs hlen bs.length 0 (List.replicate l.length 0) (by omega) (fun b hb => by simp at hb) ⟨by simp, fun v hv => ⟨by simp [List.getD_eq_getElem?_getD, List.getElem?_replicate, hv, withN, orOver], by simp [withN, orOver, Nat.two_pow_pos]⟩⟩
  refine Ev.congr (fun k => ?_) h
  unfold impl_Graph_areBags.f
  rw [if_pos (by omega), if_pos (by omega), show n.toNat = l.length from by omega]; rfl
/-- how often v comes anew, counted by places -/
theorem cnt_snoc (v : Nat) : ∀ (bs : List Int) (p : Bool) (b : Int), cnt v p (bs ++ [b]) = cnt v p bs + (b.toNat.testBit v && !((bs.getLast?.map fun c => c.toNat.testBit v).getD p)).toNat
  | [], p, b => by simp [cnt]
  | c :: bs, p, b => by
    have ih := cnt_snoc v bs (c.toNat.testBit v) b
    rw [List.cons_append]
    unfold cnt
    rw [ih, Nat.add_assoc]
    congr 2
    cases bs with
    | nil => simp
    | cons d bs => rw [List.getLast?_cons_cons]; cases h : (d :: bs).getLast? with
      | none => simp at h
      | some c => simp
theorem cnt_le (v : Nat) : ∀ (bs : List Int) (p : Bool), cnt v p bs ≤ bs.length
  | [], _ => by simp [cnt]
  | b :: bs, p => by
    have := cnt_le v bs (b.toNat.testBit v)
    unfold cnt
    simp only [List.length_cons]
    have h1 : (b.toNat.testBit v && !p).toNat ≤ 1 := by cases (b.toNat.testBit v && !p) <;> decide
    omega
theorem last_take (bs : List Int) (i : Nat) (h : i < bs.length) (h0 : i ≠ 0) : (bs.take i).getLast? = some (bs.getD (i - 1) 0) := by
  rw [List.getLast?_eq_getElem?, List.length_take, Nat.min_eq_left (by omega), List.getElem?_take_of_lt (by omega)]
  simp [List.getD_eq_getElem?_getD, List.getElem?_eq_getElem (show i - 1 < bs.length by omega)]
theorem once_l1 {l : List Int} (bs : List Int) (h8 : l.length ≤ 8) (hlen : bs.length ≤ 20) (hr : inR l.length bs) (v : Nat) (hv : v < l.length) (n : Int) (r : Bool)
    (h1 : cnt v false bs = 1 → Ev (fun k => impl_IsPathDecomposition.l0 k bs n ((v + 1 : Nat) : Int)) r) (h2 : ¬ cnt v false bs = 1 → r = false) :
    ∀ (d i : Nat), i + d = bs.length → Ev (fun k => impl_IsPathDecomposition.l1 k bs (v : Int) (cnt v false (bs.take i) : Int) n (v : Int) bs (bs.length : Int) (i : Int)) r
  | 0, i, hi => by
    obtain rfl : i = bs.length := by omega
    rw [List.take_length]
    have step : ∀ k, impl_IsPathDecomposition.l1 (k + 1) bs (v : Int) (cnt v false bs : Int) n (v : Int) bs (bs.length : Int) (bs.length : Int) = if cnt v false bs = 1 then impl_IsPathDecomposition.l0 k bs n ((v + 1 : Nat) : Int) else some false := by
      intro k
      rw [impl_IsPathDecomposition.l1.eq_2, if_neg (by omega), wsucc v (by omega)]
      by_cases hc : cnt v false bs = 1
      · rw [if_pos (by omega), if_pos hc]
      · rw [if_neg (by omega), if_neg hc]
    by_cases hc : cnt v false bs = 1
    · exact Ev.step (fun k => by rw [step k, if_pos hc]) (h1 hc)
    · rw [h2 hc]
      exact Ev.here (fun k => by rw [step k, if_neg hc])
  | d + 1, i, hi => by
    have p8 := pow8 _ h8
    obtain ⟨b, hb, hbl⟩ := inR_at hr i (by omega)
    have hc := cnt_le v (bs.take i) false
    rw [List.length_take] at hc
    refine Ev.step (fun k => ?_) (once_l1 bs h8 hlen hr v hv n r h1 h2 d (i + 1) (by omega))
    rw [impl_IsPathDecomposition.l1.eq_2, if_pos (by omega), if_pos (by omega), if_pos (by omega), rd_nat, hb, has_impl b v (by omega) (by omega), Option.bind_some, wsucc i (by omega), take_snoc' bs i (by omega), cnt_snoc, hb, Int.toNat_natCast]
    have wc : wrap64 ((cnt v false (bs.take i) : Int) + 1) = ((cnt v false (bs.take i) + 1 : Nat) : Int) := wsucc _ (by omega)
    cases hbit : b.testBit v with
    | false => rw [if_neg (by simp), Bool.false_and]; rfl
    | true =>
      rw [if_pos rfl]
      by_cases h0 : i = 0
      · subst h0
        rw [if_pos (by omega), wc]
        simp
      · obtain ⟨c, hcc, hcl⟩ := inR_at hr (i - 1) (by omega)
        have wm : wrap64 ((i : Int) - 1) = ((i - 1 : Nat) : Int) := by unfold wrap64; omega
        rw [if_neg (by omega), wm, if_pos (by omega), if_pos (by omega), rd_nat, hcc, has_impl c v (by omega) (by omega), Option.bind_some, last_take bs i (by omega) h0, hcc, wc]
        simp only [Option.map_some, Option.getD_some, Int.toNat_natCast]
        cases hcb : c.testBit v with
        | true => simp
        | false => simp
open Classical in
theorem pd_impl (n : Int) (l bs : List Int) (hL : bs.length ≤ 1000000) : Ev (fun k => impl_IsPathDecomposition.f k n l bs) (decide (PD n l bs)) := by
  by_cases g : GOk n l
  · refine Ev.bind (graph_impl_t g) ?_
    simp only [↓reduceIte]
    by_cases hl : bs.length ≤ 20
    · simp only [show ¬ (bs.length : Int) > 20 from by omega, ↓reduceIte]
      refine Ev.bind (bags_impl g bs hl) ?_
      by_cases hb : inR l.length bs ∧ edgesN l bs
      · simp only [decide_eq_true hb, Bool.not_true]
        have hn := g.len
        have main : ∀ (d v : Nat), v + d = l.length → (∀ u, u < v → cnt u false bs = 1) → Ev (fun k => impl_IsPathDecomposition.l0 k bs n (v : Int)) (decide (PD n l bs)) := by
          intro d
          induction d with
          | zero =>
            intro v hv hu
            rw [decide_eq_true (⟨g, hl, hb.1, fun u h => hu u (by omega), hb.2⟩ : PD n l bs)]
            exact Ev.here (fun k => by rw [impl_IsPathDecomposition.l0.eq_2, if_neg (by omega)])
          | succ d ih =>
            intro v hv hu
            refine Ev.step (fun k => ?_) (once_l1 bs g.len8 hl hb.1 v (by omega) n _ (fun hz => ih (v + 1) (by omega) (fun u h => if e : u = v then by rw [e]; exact hz else hu u (by omega))) (fun hz => decide_eq_false (fun h => hz (h.once v (by omega)))) bs.length 0 (by omega))
            rw [impl_IsPathDecomposition.l0.eq_2, if_pos (by omega)]; rfl
        refine Ev.step (fun k => ?_) (main l.length 0 (by omega) (fun u h => absurd h (Nat.not_lt_zero _)))
        rw [impl_IsPathDecomposition.j0.eq_2, if_neg (by simp)]; rfl
      · simp only [decide_eq_false hb, Bool.not_false]
        rw [decide_eq_false (fun h => hb ⟨h.inr, h.edges⟩)]
        exact Ev.here (fun k => by rw [impl_IsPathDecomposition.j0.eq_2, if_pos rfl])
    · simp only [show (bs.length : Int) > 20 from by omega, ↓reduceIte]
      rw [decide_eq_false (fun h => hl h.len)]
      exact Ev.here (fun k => by rw [impl_IsPathDecomposition.j0.eq_2, if_pos rfl])
  · refine Ev.bind (graph_impl_f g) ?_
    simp only [↓reduceIte, Bool.false_eq_true]
    rw [decide_eq_false (fun h => g h.g)]
    exact Ev.here (fun k => by rw [impl_IsPathDecomposition.j0.eq_2, if_pos rfl])
end Go.Proofs.Ytjpaaihohkiomaa.Pure
