/- Valid graphs: both programs tell them alike. -/
import Derived.Test.YtilanbgciofkjaaB
import Derived.Test.YtilanbgciofkjaaPAx1
import Derived.Test.YtilanbgciofkjaaPAx2
import Derived.Test.YtilanbgciofkjaaPAx3
import Derived.Test.YtilanbgciofkjaaPAx7
import Derived.Test.YtilanbgciofkjaaPAx8
namespace Go.Proofs.Ytilanbgciofkjaa.Pure
open Go.RowKit Go.Proofs.YtilanbgciofkjaaW.PrintWords Go.Proofs.YtilanbgciofkjaaW.PrintLast Go.Proofs.Ytilanbgciofkjaa.PA
set_option linter.unusedVariables false
set_option linter.unusedSimpArgs false

theorem in_spec (a lo hi : Int) : spec_l01In.f a lo hi = some (decide (lo ≤ a ∧ a ≤ hi)) := by
  unfold spec_l01In.f
  by_cases h : a ≥ lo
  · rw [if_pos h]; congr 1; rw [Bool.eq_iff_iff]; simp; omega
  · rw [if_neg h]; congr 1; rw [Bool.eq_iff_iff]; simp; omega
theorem in_impl (a lo hi : Int) : impl_in.f a lo hi = some (decide (lo ≤ a ∧ a ≤ hi)) := by
  unfold impl_in.f
  by_cases h : lo ≤ a
  · rw [if_pos h]; congr 1; rw [Bool.eq_iff_iff]; simp; omega
  · rw [if_neg h]; congr 1; rw [Bool.eq_iff_iff]; simp; omega
theorem has_spec (s v : Nat) (hs : s < 2 ^ 63) (hv : v < 62) : spec_l02Has.f (s : Int) (v : Int) = some (s.testBit v) := by
  unfold spec_l02Has.f
  have h2 : (2 : Nat) ^ v < 2 ^ 63 := Nat.pow_lt_pow_right (by decide) (by omega)
  rw [if_pos (by omega), sShl v hv, bAnd s _ hs h2, ← and_two_pow_ne]
  congr 1
  rw [Bool.eq_iff_iff]; simp
theorem has_impl (s v : Nat) (hs : s < 2 ^ 63) (hv : v < 62) : impl_has.f (s : Int) (v : Int) = some (s.testBit v) := by
  unfold impl_has.f
  have h2 : s / 2 ^ v < 2 ^ 63 := Nat.lt_of_le_of_lt (Nat.div_le_self _ _) hs
  rw [if_pos (by omega), sShr s v (by omega), show (1 : Int) = ((1 : Nat) : Int) from rfl, bAnd _ _ h2 (by decide), ← shr_and_one]
  congr 1
  generalize s / 2 ^ v &&& 1 = z
  rw [Bool.eq_iff_iff]; simp; omega
theorem bit_impl (v : Nat) (hv : v < 62) : impl_bit.f (v : Int) = some ((2 ^ v : Nat) : Int) := by
  unfold impl_bit.f; rw [if_pos (by omega), sShl v hv]
theorem two_wrap (n : Nat) (h : n < 62) : wrap64 (((2 ^ n : Nat) : Int) - 1) = ((2 ^ n : Nat) : Int) - 1 := by
  have : (2 : Nat) ^ n < 2 ^ 62 := Nat.pow_lt_pow_right (by decide) h
  have h1 : 1 ≤ (2 : Nat) ^ n := Nat.one_le_two_pow
  unfold wrap64; omega
theorem all_impl (n : Nat) (l : List Int) (h : n < 62) : impl_Graph_all.f (n : Int) l = some (((2 ^ n : Nat) : Int) - 1) := by
  unfold impl_Graph_all.f; rw [bit_impl n h, Option.bind_some, two_wrap n h]
theorem wsucc (w : Nat) (h : w ≤ 4000000) : wrap64 ((w : Int) + 1) = ((w + 1 : Nat) : Int) := by unfold wrap64; omega

def rowg (l : List Int) (v : Nat) : Prop := 0 ≤ l.getD v 0 ∧ l.getD v 0 < ((2 ^ l.length : Nat) : Int) ∧ (l.getD v 0).toNat.testBit v = false
def symg (l : List Int) (v w : Nat) : Prop := (l.getD v 0).toNat.testBit w = (l.getD w 0).toNat.testBit v
section
variable {n : Nat} {l : List Int} (hl : l.length = n) (h8 : n ≤ 8)
include hl h8

theorem sG_l2 (hrow : ∀ v, v < n → 0 ≤ l.getD v 0 ∧ l.getD v 0 < ((2 ^ n : Nat) : Int)) (v : Nat) (hv : v < n) (b : Bool) (h1 : (∀ u, u < n → symg l v u) → Ev (fun k => spec_GraphOk.l1 k l (n : Int) ((v + 1 : Nat) : Int) (n : Int) l) b) (h2 : ¬ (∀ u, u < n → symg l v u) → b = false) :
    ∀ d w, w + d = n → (∀ u, u < w → symg l v u) → Ev (fun k => spec_GraphOk.l2 k (v : Int) (l.getD v 0) l (n : Int) (v : Int) (n : Int) (w : Int) (n : Int) l) b
  | 0, w, hw, hs => by
    refine Ev.step (fun k => ?_) (h1 (fun u hu => hs u (by omega)))
    rw [spec_GraphOk.l2.eq_2, if_neg (by omega), wsucc v (by omega)]
  | d + 1, w, hw, hs => by
    have p8 := pow8 n h8
    obtain ⟨a, ha⟩ : ∃ a : Nat, l.getD v 0 = (a : Int) := ⟨(l.getD v 0).toNat, by have := hrow v hv; omega⟩
    obtain ⟨c, hc⟩ : ∃ c : Nat, l.getD w 0 = (c : Int) := ⟨(l.getD w 0).toNat, by have := hrow w (by omega); omega⟩
    have hav := hrow v hv
    have hcw := hrow w (by omega)
    have e1 : spec_l02Has.f (l.getD v 0) (w : Int) = some (a.testBit w) := by rw [ha]; exact has_spec a w (by omega) (by omega)
    have e2 : spec_l02Has.f (l.getD w 0) (v : Int) = some (c.testBit v) := by rw [hc]; exact has_spec c v (by omega) (by omega)
    by_cases hs1 : symg l v w
    · refine Ev.step (fun k => ?_) (sG_l2 hrow v hv b h1 h2 d (w + 1) (by omega) (fun u hu => if e : u = w then e ▸ hs1 else hs u (by omega)))
      have hq : a.testBit w = c.testBit v := by unfold symg at hs1; rw [ha, hc] at hs1; exact hs1
      rw [spec_GraphOk.l2.eq_2, if_pos (by omega)]
      rw [e1, Option.bind_some, if_pos (by omega), if_pos (by omega), rd_nat, e2, Option.bind_some]
      rw [if_neg (by rw [hq]; simp), wsucc w (by omega)]
    · have hb : b = false := h2 (fun hall => hs1 (hall w (by omega)))
      subst hb
      refine Ev.step (fun k => ?_) (Ev.now false)
      have hq : ¬ a.testBit w = c.testBit v := by unfold symg at hs1; rw [ha, hc] at hs1; exact hs1
      rw [spec_GraphOk.l2.eq_2, if_pos (by omega)]
      rw [e1, Option.bind_some, if_pos (by omega), if_pos (by omega), rd_nat, e2, Option.bind_some]
      rw [if_pos (by simpa using hq)]
open Classical in
theorem sG_l1 (hrow : ∀ v, v < n → 0 ≤ l.getD v 0 ∧ l.getD v 0 < ((2 ^ n : Nat) : Int)) :
    ∀ d v, v + d = n → Ev (fun k => spec_GraphOk.l1 k l (n : Int) (v : Int) (n : Int) l) (decide (∀ x y, v ≤ x → x < n → y < n → symg l x y))
  | 0, v, hv => by
    refine Ev.step (fun k => ?_) (Ev.now _)
    rw [spec_GraphOk.l1.eq_2, if_neg (by omega)]
    congr 1
    rw [eq_comm, decide_eq_true_eq]
    intro x y h1 h2; omega
  | d + 1, v, hv => by
    have ih := sG_l1 hrow d (v + 1) (by omega)
    have e0 : (l.length : Int) = (n : Int) := by omega
    refine Ev.step (fun k => ?_) (sG_l2 hl h8 hrow v (by omega) _ (fun hall => ?_) (fun hno => ?_) n 0 (by omega) (fun u hu => absurd hu (Nat.not_lt_zero _)))
    · rw [spec_GraphOk.l1.eq_2, if_pos (by omega), if_pos (by omega), if_pos (by omega), rd_nat, e0]; rfl
    · refine ⟨ih.choose, fun k hk => ?_⟩
      rw [ih.choose_spec k hk]
      congr 1
      rw [Bool.eq_iff_iff, decide_eq_true_eq, decide_eq_true_eq]
      constructor
      · intro h x y h1 h2 h3
        by_cases e : x = v
        · subst e; exact hall y h3
        · exact h x y (by omega) h2 h3
      · intro h x y h1 h2 h3; exact h x y (by omega) h2 h3
    · rw [decide_eq_false_iff_not]
      intro h; exact hno (fun u hu => h v u (Nat.le_refl _) (by omega) hu)
open Classical in
theorem sG_l0 (h1 : 1 ≤ n) : ∀ d v, v + d = n → (∀ x, x < v → rowg l x) → Ev (fun k => spec_GraphOk.l0 k l (n : Int) (v : Int) (n : Int) l) (decide ((∀ x, x < n → rowg l x) ∧ ∀ x y, x < n → y < n → symg l x y))
  | 0, v, hv, hr => by
    have hrow : ∀ v, v < n → 0 ≤ l.getD v 0 ∧ l.getD v 0 < ((2 ^ n : Nat) : Int) := fun x hx => by have := hr x (by omega); unfold rowg at this; rw [hl] at this; exact ⟨this.1, this.2.1⟩
    have e0 : (l.length : Int) = (n : Int) := by omega
    have h := sG_l1 hl h8 hrow n 0 (by omega)
    refine Ev.step (fun k => ?_) (⟨h.choose, fun k hk => ?_⟩ : Ev (fun k => spec_GraphOk.l1 k l (n : Int) (0 : Int) (n : Int) l) _)
    · rw [spec_GraphOk.l0.eq_2, if_neg (by omega), e0]
    · rw [show (0 : Int) = ((0 : Nat) : Int) from rfl, h.choose_spec k hk]
      congr 1
      rw [Bool.eq_iff_iff, decide_eq_true_eq, decide_eq_true_eq]
      exact ⟨fun h => ⟨fun x hx => hr x (by omega), fun x y h1 h2 => h x y (Nat.zero_le _) h1 h2⟩, fun h x y _ h1 h2 => h.2 x y h1 h2⟩
  | d + 1, v, hv, hr => by
    have e0 : (l.length : Int) = (n : Int) := by omega
    have p8 := pow8 n h8
    have hin : spec_l01In.f (l.getD v 0) 0 (((2 ^ n : Nat) : Int) - 1) = some (decide (0 ≤ l.getD v 0 ∧ l.getD v 0 ≤ ((2 ^ n : Nat) : Int) - 1)) := in_spec _ _ _
    by_cases hg : rowg l v
    · refine Ev.step (fun k => ?_) (sG_l0 h1 d (v + 1) (by omega) (fun x hx => if e : x = v then e ▸ hg else hr x (by omega)))
      obtain ⟨g1, g2, g3⟩ := hg
      rw [hl] at g2
      obtain ⟨a, ha⟩ : ∃ a : Nat, l.getD v 0 = (a : Int) := ⟨(l.getD v 0).toNat, by omega⟩
      rw [ha] at g1 g2 g3 hin
      have e1 : spec_l02Has.f (a : Int) (v : Int) = some false := by rw [has_spec a v (by omega) (by omega)]; congr 1
      rw [decide_eq_true (by omega)] at hin
      rw [spec_GraphOk.l0.eq_2, if_pos (by omega), if_pos (by omega), if_pos (by omega), rd_nat, ha]
      rw [if_pos (by omega), sShl n (by omega), two_wrap n (by omega)]
      rw [hin, Option.bind_some, if_pos rfl, e1, Option.bind_some, if_neg (by simp), wsucc v (by omega)]
    · rw [decide_eq_false (fun h => hg (h.1 v (by omega)))]
      refine Ev.step (fun k => ?_) (Ev.now false)
      rw [spec_GraphOk.l0.eq_2, if_pos (by omega), if_pos (by omega), if_pos (by omega), rd_nat]
      rw [if_pos (by omega), sShl n (by omega), two_wrap n (by omega)]
      rw [hin, Option.bind_some]
      by_cases hz : 0 ≤ l.getD v 0 ∧ l.getD v 0 ≤ ((2 ^ n : Nat) : Int) - 1
      · obtain ⟨a, ha⟩ : ∃ a : Nat, l.getD v 0 = (a : Int) := ⟨(l.getD v 0).toNat, by omega⟩
        rw [decide_eq_true hz, if_pos rfl, ha]
        have e1 : spec_l02Has.f (a : Int) (v : Int) = some true := by
          rw [has_spec a v (by omega) (by omega)]; congr 1
          cases hb : a.testBit v with
          | true => rfl
          | false => exact absurd ⟨hz.1, by rw [hl]; omega, by rw [ha]; exact hb⟩ hg
        rw [e1, Option.bind_some, if_pos rfl]
      · rw [decide_eq_false hz, if_neg (by simp)]
theorem iG_l2 (hrow : ∀ v, v < n → 0 ≤ l.getD v 0 ∧ l.getD v 0 < ((2 ^ n : Nat) : Int)) (v : Nat) (hv : v < n) (b : Bool) (h1 : (∀ u, u < n → symg l v u) → Ev (fun k => impl_GraphOk.l1 k l (n : Int) ((v + 1 : Nat) : Int) (n : Int) l) b) (h2 : ¬ (∀ u, u < n → symg l v u) → b = false) :
    ∀ d w, w + d = n → (∀ u, u < w → symg l v u) → Ev (fun k => impl_GraphOk.l2 k (v : Int) (l.getD v 0) l (n : Int) (v : Int) l (n : Int) (w : Int) (n : Int) l) b
  | 0, w, hw, hs => by
    refine Ev.step (fun k => ?_) (h1 (fun u hu => hs u (by omega)))
    rw [impl_GraphOk.l2.eq_2, if_neg (by omega), wsucc v (by omega)]
  | d + 1, w, hw, hs => by
    have p8 := pow8 n h8
    obtain ⟨a, ha⟩ : ∃ a : Nat, l.getD v 0 = (a : Int) := ⟨(l.getD v 0).toNat, by have := hrow v hv; omega⟩
    obtain ⟨c, hc⟩ : ∃ c : Nat, l.getD w 0 = (c : Int) := ⟨(l.getD w 0).toNat, by have := hrow w (by omega); omega⟩
    have hav := hrow v hv
    have hcw := hrow w (by omega)
    have e1 : impl_has.f (l.getD v 0) (w : Int) = some (a.testBit w) := by rw [ha]; exact has_impl a w (by omega) (by omega)
    have e2 : impl_has.f (l.getD w 0) (v : Int) = some (c.testBit v) := by rw [hc]; exact has_impl c v (by omega) (by omega)
    by_cases hs1 : symg l v w
    · refine Ev.step (fun k => ?_) (iG_l2 hrow v hv b h1 h2 d (w + 1) (by omega) (fun u hu => if e : u = w then e ▸ hs1 else hs u (by omega)))
      have hq : a.testBit w = c.testBit v := by unfold symg at hs1; rw [ha, hc] at hs1; exact hs1
      rw [impl_GraphOk.l2.eq_2, if_pos (by omega)]
      rw [if_pos (by omega), if_pos (by omega), e1, Option.bind_some, rd_nat, e2, Option.bind_some]
      rw [if_neg (by rw [hq]; simp), wsucc w (by omega)]
    · have hb : b = false := h2 (fun hall => hs1 (hall w (by omega)))
      subst hb
      refine Ev.step (fun k => ?_) (Ev.now false)
      have hq : ¬ a.testBit w = c.testBit v := by unfold symg at hs1; rw [ha, hc] at hs1; exact hs1
      rw [impl_GraphOk.l2.eq_2, if_pos (by omega)]
      rw [if_pos (by omega), if_pos (by omega), e1, Option.bind_some, rd_nat, e2, Option.bind_some]
      rw [if_pos (by simpa using hq)]
open Classical in
theorem iG_l1 (hrow : ∀ v, v < n → 0 ≤ l.getD v 0 ∧ l.getD v 0 < ((2 ^ n : Nat) : Int)) :
    ∀ d v, v + d = n → Ev (fun k => impl_GraphOk.l1 k l (n : Int) (v : Int) (n : Int) l) (decide (∀ x y, v ≤ x → x < n → y < n → symg l x y))
  | 0, v, hv => by
    refine Ev.step (fun k => ?_) (Ev.now _)
    rw [impl_GraphOk.l1.eq_2, if_neg (by omega)]
    congr 1
    rw [eq_comm, decide_eq_true_eq]
    intro x y h1 h2; omega
  | d + 1, v, hv => by
    have ih := iG_l1 hrow d (v + 1) (by omega)
    have e0 : (l.length : Int) = (n : Int) := by omega
    refine Ev.step (fun k => ?_) (iG_l2 hl h8 hrow v (by omega) _ (fun hall => ?_) (fun hno => ?_) n 0 (by omega) (fun u hu => absurd hu (Nat.not_lt_zero _)))
    · rw [impl_GraphOk.l1.eq_2, if_pos (by omega), if_pos (by omega), if_pos (by omega), rd_nat, e0]; rfl
    · refine ⟨ih.choose, fun k hk => ?_⟩
      rw [ih.choose_spec k hk]
      congr 1
      rw [Bool.eq_iff_iff, decide_eq_true_eq, decide_eq_true_eq]
      constructor
      · intro h x y h1 h2 h3
        by_cases e : x = v
        · subst e; exact hall y h3
        · exact h x y (by omega) h2 h3
      · intro h x y h1 h2 h3; exact h x y (by omega) h2 h3
    · rw [decide_eq_false_iff_not]
      intro h; exact hno (fun u hu => h v u (Nat.le_refl _) (by omega) hu)
open Classical in
theorem iG_l0 (h1 : 1 ≤ n) : ∀ d v, v + d = n → (∀ x, x < v → rowg l x) → Ev (fun k => impl_GraphOk.l0 k l (n : Int) (v : Int) (n : Int) l) (decide ((∀ x, x < n → rowg l x) ∧ ∀ x y, x < n → y < n → symg l x y))
  | 0, v, hv, hr => by
    have hrow : ∀ v, v < n → 0 ≤ l.getD v 0 ∧ l.getD v 0 < ((2 ^ n : Nat) : Int) := fun x hx => by have := hr x (by omega); unfold rowg at this; rw [hl] at this; exact ⟨this.1, this.2.1⟩
    have e0 : (l.length : Int) = (n : Int) := by omega
    have h := iG_l1 hl h8 hrow n 0 (by omega)
    refine Ev.step (fun k => ?_) (⟨h.choose, fun k hk => ?_⟩ : Ev (fun k => impl_GraphOk.l1 k l (n : Int) (0 : Int) (n : Int) l) _)
    · rw [impl_GraphOk.l0.eq_2, if_neg (by omega), e0]
    · rw [show (0 : Int) = ((0 : Nat) : Int) from rfl, h.choose_spec k hk]
      congr 1
      rw [Bool.eq_iff_iff, decide_eq_true_eq, decide_eq_true_eq]
      exact ⟨fun h => ⟨fun x hx => hr x (by omega), fun x y h1 h2 => h x y (Nat.zero_le _) h1 h2⟩, fun h x y _ h1 h2 => h.2 x y h1 h2⟩
  | d + 1, v, hv, hr => by
    have e0 : (l.length : Int) = (n : Int) := by omega
    have p8 := pow8 n h8
    have hin : impl_in.f (l.getD v 0) 0 (((2 ^ n : Nat) : Int) - 1) = some (decide (0 ≤ l.getD v 0 ∧ l.getD v 0 ≤ ((2 ^ n : Nat) : Int) - 1)) := in_impl _ _ _
    by_cases hg : rowg l v
    · refine Ev.step (fun k => ?_) (iG_l0 h1 d (v + 1) (by omega) (fun x hx => if e : x = v then e ▸ hg else hr x (by omega)))
      obtain ⟨g1, g2, g3⟩ := hg
      rw [hl] at g2
      obtain ⟨a, ha⟩ : ∃ a : Nat, l.getD v 0 = (a : Int) := ⟨(l.getD v 0).toNat, by omega⟩
      rw [ha] at g1 g2 g3 hin
      have e1 : impl_has.f (a : Int) (v : Int) = some false := by rw [has_impl a v (by omega) (by omega)]; congr 1
      rw [decide_eq_true (by omega)] at hin
      rw [impl_GraphOk.l0.eq_2, if_pos (by omega), if_pos (by omega), if_pos (by omega), rd_nat, ha]
      rw [all_impl n l (by omega), Option.bind_some]
      rw [hin, Option.bind_some, if_pos rfl, e1, Option.bind_some, if_neg (by simp), wsucc v (by omega)]
    · rw [decide_eq_false (fun h => hg (h.1 v (by omega)))]
      refine Ev.step (fun k => ?_) (Ev.now false)
      rw [impl_GraphOk.l0.eq_2, if_pos (by omega), if_pos (by omega), if_pos (by omega), rd_nat]
      rw [all_impl n l (by omega), Option.bind_some]
      rw [hin, Option.bind_some]
      by_cases hz : 0 ≤ l.getD v 0 ∧ l.getD v 0 ≤ ((2 ^ n : Nat) : Int) - 1
      · obtain ⟨a, ha⟩ : ∃ a : Nat, l.getD v 0 = (a : Int) := ⟨(l.getD v 0).toNat, by omega⟩
        rw [decide_eq_true hz, if_pos rfl, ha]
        have e1 : impl_has.f (a : Int) (v : Int) = some true := by
          rw [has_impl a v (by omega) (by omega)]; congr 1
          cases hb : a.testBit v with
          | true => rfl
          | false => exact absurd ⟨hz.1, by rw [hl]; omega, by rw [ha]; exact hb⟩ hg
        rw [e1, Option.bind_some, if_pos rfl]
      · rw [decide_eq_false hz, if_neg (by simp)]
end
theorem GOk_iff (n : Int) (l : List Int) (h1 : 1 ≤ n) (h8 : n ≤ 8) (hl : (l.length : Int) = n) : GOk n l ↔ ((∀ x, x < l.length → rowg l x) ∧ ∀ x y, x < l.length → y < l.length → symg l x y) := by
  have e : ((2 ^ l.length : Nat) : Int) = (2 : Int) ^ l.length := by simp
  constructor
  · intro g
    exact ⟨fun x hx => ⟨g.row0 x hx, by rw [e]; exact g.row1 x hx, g.own x hx⟩, fun x y hx hy => g.sym x y hx hy⟩
  · intro g
    exact ⟨h1, h8, hl, fun v hv => (g.1 v hv).1, fun v hv => by have := (g.1 v hv).2.1; rw [e] at this; exact this, fun v hv => (g.1 v hv).2.2, fun v w hv hw => g.2 v w hv hw⟩
open Classical in
theorem graph_spec (n : Int) (l : List Int) : Ev (fun k => spec_GraphOk.f k n l) (decide (GOk n l)) := by
  by_cases hr : 1 ≤ n ∧ n ≤ 8
  · by_cases hl : (l.length : Int) = n
    · obtain ⟨m, rfl⟩ : ∃ m : Nat, n = (m : Int) := ⟨n.toNat, by omega⟩
      have hl' : l.length = m := by omega
      have h := sG_l0 hl' (by omega) (by omega) m 0 (by omega) (fun x hx => absurd hx (Nat.not_lt_zero _))
      refine ⟨h.choose + 1, fun k hk => ?_⟩
      obtain ⟨k, rfl⟩ : ∃ j, k = j + 1 := ⟨k - 1, by omega⟩
      show spec_GraphOk.f (k + 1) _ _ = _
      unfold spec_GraphOk.f
      rw [in_spec, decide_eq_true hr, Option.bind_some, if_pos rfl, spec_GraphOk.j0.eq_2, hl, if_neg (by simp)]
      have h2 := h.choose_spec k (by omega)
      rw [show ((0 : Nat) : Int) = 0 from rfl] at h2
      refine h2.trans ?_
      congr 1
      rw [Bool.eq_iff_iff, decide_eq_true_eq, decide_eq_true_eq, GOk_iff _ _ hr.1 hr.2 hl, hl']
    · refine ⟨1, fun k hk => ?_⟩
      obtain ⟨k, rfl⟩ : ∃ j, k = j + 1 := ⟨k - 1, by omega⟩
      show spec_GraphOk.f (k + 1) _ _ = _
      unfold spec_GraphOk.f
      rw [in_spec, decide_eq_true hr, Option.bind_some, if_pos rfl, spec_GraphOk.j0.eq_2, if_pos (by simpa using hl), decide_eq_false (fun g => hl g.len)]
  · refine ⟨1, fun k hk => ?_⟩
    obtain ⟨k, rfl⟩ : ∃ j, k = j + 1 := ⟨k - 1, by omega⟩
    show spec_GraphOk.f (k + 1) _ _ = _
    unfold spec_GraphOk.f
    rw [in_spec, decide_eq_false hr, Option.bind_some, if_neg (by simp), spec_GraphOk.j0.eq_2, if_pos rfl, decide_eq_false (fun g => hr ⟨g.lo, g.hi⟩)]
open Classical in
theorem graph_impl (n : Int) (l : List Int) : Ev (fun k => impl_GraphOk.f k n l) (decide (GOk n l)) := by
  by_cases hr : 1 ≤ n ∧ n ≤ 8
  · by_cases hl : (l.length : Int) = n
    · obtain ⟨m, rfl⟩ : ∃ m : Nat, n = (m : Int) := ⟨n.toNat, by omega⟩
      have hl' : l.length = m := by omega
      have h := iG_l0 hl' (by omega) (by omega) m 0 (by omega) (fun x hx => absurd hx (Nat.not_lt_zero _))
      refine ⟨h.choose + 1, fun k hk => ?_⟩
      obtain ⟨k, rfl⟩ : ∃ j, k = j + 1 := ⟨k - 1, by omega⟩
      show impl_GraphOk.f (k + 1) _ _ = _
      unfold impl_GraphOk.f
      rw [in_impl, decide_eq_true hr, Option.bind_some, if_pos rfl, impl_GraphOk.j0.eq_2, hl, if_neg (by simp)]
      have h2 := h.choose_spec k (by omega)
      rw [show ((0 : Nat) : Int) = 0 from rfl] at h2
      refine h2.trans ?_
      congr 1
      rw [Bool.eq_iff_iff, decide_eq_true_eq, decide_eq_true_eq, GOk_iff _ _ hr.1 hr.2 hl, hl']
    · refine ⟨1, fun k hk => ?_⟩
      obtain ⟨k, rfl⟩ : ∃ j, k = j + 1 := ⟨k - 1, by omega⟩
      show impl_GraphOk.f (k + 1) _ _ = _
      unfold impl_GraphOk.f
      rw [in_impl, decide_eq_true hr, Option.bind_some, if_pos rfl, impl_GraphOk.j0.eq_2, if_pos (by simpa using hl), decide_eq_false (fun g => hl g.len)]
  · refine ⟨1, fun k hk => ?_⟩
    obtain ⟨k, rfl⟩ : ∃ j, k = j + 1 := ⟨k - 1, by omega⟩
    show impl_GraphOk.f (k + 1) _ _ = _
    unfold impl_GraphOk.f
    rw [in_impl, decide_eq_false hr, Option.bind_some, if_neg (by simp), impl_GraphOk.j0.eq_2, if_pos rfl, decide_eq_false (fun g => hr ⟨g.lo, g.hi⟩)]
open Classical in
theorem graph_spec_t {n : Int} {l : List Int} (g : GOk n l) : Ev (fun k => spec_GraphOk.f k n l) true := by have := graph_spec n l; rwa [decide_eq_true g] at this
open Classical in
theorem graph_spec_f {n : Int} {l : List Int} (g : ¬ GOk n l) : Ev (fun k => spec_GraphOk.f k n l) false := by have := graph_spec n l; rwa [decide_eq_false g] at this
open Classical in
theorem graph_impl_t {n : Int} {l : List Int} (g : GOk n l) : Ev (fun k => impl_GraphOk.f k n l) true := by have := graph_impl n l; rwa [decide_eq_true g] at this
open Classical in
theorem graph_impl_f {n : Int} {l : List Int} (g : ¬ GOk n l) : Ev (fun k => impl_GraphOk.f k n l) false := by have := graph_impl n l; rwa [decide_eq_false g] at this
/-- two results, each in time -/
theorem both_ev {R : Type} {f g : Nat → Option R} {r : R} (h1 : Ev f r) (h2 : Ev g r) : ∃ (ks ki : Nat) (r : R), f ks = some r ∧ g ki = some r := by
  obtain ⟨k1, h1⟩ := h1.rounds
  obtain ⟨k2, h2⟩ := h2.rounds
  exact ⟨k1, k2, r, h1, h2⟩
end Go.Proofs.Ytilanbgciofkjaa.Pure
