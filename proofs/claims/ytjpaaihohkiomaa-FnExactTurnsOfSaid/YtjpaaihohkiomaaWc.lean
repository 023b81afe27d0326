/- Marks: what markIntS writes and heldIntS finds again. -/
import Derived.Test.YtjpaaihohkiomaaWb
namespace Go.Proofs.Ytjpaaihohkiomaa.Wr
open Go.RowKit Go.Proofs.YtjpaaihohkiomaaW.PrintWords Go.Proofs.YtjpaaihohkiomaaW.PrintLast Go.Proofs.YtjpaaihohkiomaaW.PrintMore Go.Proofs.Ytjpaaihohkiomaa.PH
set_option linter.unusedVariables false
set_option linter.unusedSimpArgs false

def marks (a : Int) (n : Nat) : List Int := (List.range n).map fun (i : Nat) => a + (i : Int)
theorem marks_len (a : Int) (n : Nat) : (marks a n).length = n := by simp [marks]
theorem marks_at (a : Int) (n j : Nat) (h : j < n) : (marks a n).getD j 0 = a + (j : Int) := by
  simp [marks, List.getD_eq_getElem?_getD, List.getElem?_range h]
theorem w64_add (a : Int) (i : Nat) (ha0 : 0 ≤ a) (ha : a ≤ 100000000) (hi : i ≤ 4000000) : wrap64 (a + (i : Int) + 1) = a + ((i + 1 : Nat) : Int) := by unfold wrap64; omega
theorem mark_run (a : Int) (n : Nat) (ha0 : 0 ≤ a) (ha : a ≤ 100000000) (hn : n ≤ 4000000) : ∀ (d k : Nat) (x : List Int) (i : Nat), x.length = n → i + d = n → d < k → (∀ j, j < i → x.getD j 0 = a + (j : Int)) →
    laws_markIntS.l0 k x (a + (i : Int)) (i : Int) = some (a + (n : Int), marks a n)
  | d, 0, _, _, _, _, h, _ => absurd h (Nat.not_lt_zero _)
  | 0, k + 1, x, i, hx, hi, _, hj => by
    obtain rfl : i = n := by omega
    rw [laws_markIntS.l0.eq_2, if_neg (by omega)]
    congr 2
    refine ext_getD _ _ (by rw [marks_len, hx]) (fun j h => ?_)
    rw [hj j (by omega), marks_at _ _ _ (by omega)]
  | d + 1, k + 1, x, i, hx, hi, hk, hj => by
    rw [laws_markIntS.l0.eq_2, if_pos (by omega), if_pos (by omega), w64_add a i ha0 ha (by omega), w64_succ i n (by omega) hn]
    refine mark_run a n ha0 ha hn d k _ (i + 1) (by rw [List.length_set, hx]) (by omega) (by omega) (fun j h => ?_)
    rw [show ((i : Int)).toNat = i from by omega]
    by_cases e : j = i
    · subst e; exact getD_set_self _ _ _ (by omega)
    · rw [getD_set_ne _ _ _ _ (by omega)]; exact hj j (by omega)
theorem mark_all (a : Int) (x : List Int) (ha0 : 0 ≤ a) (ha : a ≤ 100000000) (hn : x.length ≤ 4000000) : laws_markIntS.f (x.length + 1) x a = some (a + (x.length : Int), marks a x.length) := by
  unfold laws_markIntS.f
  have := mark_run a x.length ha0 ha hn x.length (x.length + 1) x 0 rfl (by omega) (by omega) (fun j h => absurd h (Nat.not_lt_zero _))
  rw [show a + ((0 : Nat) : Int) = a from by omega] at this
  exact this
theorem held_run (a : Int) (n : Nat) (ha0 : 0 ≤ a) (ha : a ≤ 100000000) (hn : n ≤ 4000000) : ∀ (d k i : Nat), i + d = n → d < k → laws_heldIntS.l0 k (marks a n) (a + (i : Int)) (i : Int) = some (a + (n : Int))
  | d, 0, _, _, h => absurd h (Nat.not_lt_zero _)
  | 0, k + 1, i, hi, _ => by
    obtain rfl : i = n := by omega
    rw [laws_heldIntS.l0.eq_2, if_neg (by rw [marks_len]; omega)]
  | d + 1, k + 1, i, hi, hk => by
    rw [laws_heldIntS.l0.eq_2, if_pos (by rw [marks_len]; omega), if_pos (by omega), if_pos (by rw [rd_nat, marks_at _ _ _ (by omega)]), w64_add a i ha0 ha (by omega), w64_succ i n (by omega) hn]
    exact held_run a n ha0 ha hn d k (i + 1) (by omega) (by omega)
theorem held_all (a : Int) (n : Nat) (ha0 : 0 ≤ a) (ha : a ≤ 100000000) (hn : n ≤ 4000000) : laws_heldIntS.f (n + 1) (marks a n) a = some (a + (n : Int)) := by
  unfold laws_heldIntS.f
  have := held_run a n ha0 ha hn n (n + 1) 0 (by omega) (by omega)
  rw [show a + ((0 : Nat) : Int) = a from by omega] at this
  exact this

/-- markIntS on the first n cells of an array of the call's own. -/
theorem markIntS_c (a : Int) (n : Nat) (f : List Int) (A : Option Addr) (c : Nat) (w0 w : World) (ha0 : 0 ≤ a) (ha : a ≤ 100000000) (hn : n ≤ 4000000) (hf : n ≤ f.length) (hB : Below w0.heap.size w0 w)
    (hb : ∀ k, (Value.slice A f.length c).ownBlock = some k → w0.heap.size ≤ k) (h : RO w (.slice A f.length c) f) :
    Calls Try.prog 49 #[.slice A n c, .int .i64 a] w fun e w' => e = .returned (.int .i64 (a + (n : Int))) ∧ RO w' (.slice A (marks a n).length c) (marks a n) ∧ Below w0.heap.size w0 w' ∧
      Kept w w' (fun k => (Value.slice A n c).ownBlock = some k) := by
  have hR := Kd.R_take (m := n) (RO_base h hb) hf
  have ob : ∀ m, (Value.slice A m c).ownBlock = (Value.slice A n c).ownBlock := fun m => by cases A <;> rfl
  have hlen : (f.take n).length = n := by rw [List.length_take]; omega
  have hm := mark_all a (f.take n) ha0 ha (by omega)
  refine (laws_markIntS.calls _ (fun k => (Value.slice A n c).ownBlock = some k) (.slice A n c) (f.take n) a _ _ w0 w hB (Kd.R_mono hR (fun k hk => by rw [ob] at hk; exact hk)) hm).mono ?_
  rintro e w' ⟨rfl, hr, hb', hk⟩
  rw [hlen] at hr
  refine ⟨by rw [hlen], ?_, hb', hk⟩
  rw [marks_len]
  exact RO_of hr
theorem heldIntS_c (a : Int) (n : Nat) (A : Option Addr) (c : Nat) (w : World) (ha0 : 0 ≤ a) (ha : a ≤ 100000000) (hn : n ≤ 4000000) (h : RO w (.slice A (marks a n).length c) (marks a n)) :
    Calls Try.prog 50 #[.slice A n c, .int .i64 a] w fun e w' => e = .returned (.int .i64 (a + (n : Int))) ∧ Drawn0 w w' := by
  have := laws_heldIntS.calls (n + 1) A c (marks a n) a (a + (n : Int)) w (RO_C h) (RO_le h) (held_all a n ha0 ha hn)
  rw [marks_len] at this
  exact this
end Go.Proofs.Ytjpaaihohkiomaa.Wr
