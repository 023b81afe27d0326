/- Sizes; and small laws for the statements' walks. -/
import Derived.Test.YtjpaaihohkiomaaWc
namespace Go.Proofs.Ytjpaaihohkiomaa.Wr
open Go.RowKit Go.Proofs.YtjpaaihohkiomaaW.PrintWords Go.Proofs.YtjpaaihohkiomaaW.PrintLast Go.Proofs.YtjpaaihohkiomaaW.PrintMore Go.Proofs.Ytjpaaihohkiomaa.PH
set_option linter.unusedVariables false
set_option linter.unusedSimpArgs false

theorem own_same {A : Option Addr} {n c m d k : Nat} (h : (Value.slice A n c).ownBlock = some k) : (Value.slice A m d).ownBlock = some k := by cases A <;> exact h
theorem dj_sym {v u : Value} (h : ∀ k, v.ownBlock = some k → ¬ u.ownBlock = some k) : ∀ k, u.ownBlock = some k → ¬ v.ownBlock = some k := fun k h1 h2 => h k h2 h1
theorem RO_ne {W : World} {v : Value} {f : List Int} {g t : Nat} {cs : Array Value} (h : RO W v f) (hg : W.heap[g]? = some (.cells cs t (0, 0))) (ht : 3 ≠ t) (hv : v.ownBlock = some g) : False :=
  ((Kd.R_types h hg (fun q hq => by
    have e : q = 3 := by simpa [Kd.int, Kd.scalar] using hq
    rw [e]
    exact ht)).1 g hv).2 rfl
/-- toIntS, as the walks of the statements take it. -/
theorem toIntS_c (A0 : Option Addr) (c0 : Nat) (l : List Int) (b : Bool) (w : World) (hl : l.length ≤ 1000000) (hr : Kd.C (Kd.int .i64) w A0 l.length l) (hc : l.length ≤ c0) :
    Calls Try.prog 23 #[.slice A0 l.length c0, .bool b] w fun e w' => ∃ (A : Option Addr) (c : Nat), e = .returned (.slice A l.length c) ∧ RO w' (.slice A (fullOf b l).length c) (fullOf b l) ∧
      (∀ k, (Value.slice A (fullOf b l).length c).ownBlock = some k → w.heap.size ≤ k) ∧ Below w.heap.size w w' :=
  (toIntS_r l b A0 c0 w hl hr hc).mono fun e w' ⟨A, c, he, h, hb⟩ => ⟨A, c, he, RO_of h, Kd.R_base h, hb⟩
theorem fullOf_false_len (l : List Int) : (fullOf false l).length = l.length + roomN l.length := by rw [fullOf_false]; simp
theorem sz_ok (l : List Int) (left : Int) (h0 : (l.length : Int) ≤ left) (h1 : left ≤ 1000000) : laws_szIntS.f l left = some (left - (l.length : Int)) := by
  unfold laws_szIntS.f
  have e : wrap64 (left - (l.length : Int)) = left - (l.length : Int) := by unfold wrap64; omega
  rw [e, if_neg (by omega)]
theorem sz_big (l : List Int) (left : Int) (h0 : left < (l.length : Int)) (h1 : left ≤ 1000000) (h2 : -100000000000000000 ≤ left) (h3 : l.length ≤ 1000000000000000) : laws_szIntS.f l left = some (-1) := by
  unfold laws_szIntS.f
  have e : wrap64 (left - (l.length : Int)) = left - (l.length : Int) := by unfold wrap64; omega
  rw [e, if_pos (by omega)]
theorem szG_ok (n : Int) (l : List Int) (left : Int) (h0 : (l.length : Int) ≤ left) (h1 : left ≤ 1000000) : laws_szGraph.f n l left = some (left - (l.length : Int)) := by
  unfold laws_szGraph.f
  rw [sz_ok l left h0 h1, Option.bind_some, if_neg (by omega)]
theorem szG_big (n : Int) (l : List Int) (left : Int) (h0 : left < (l.length : Int)) (h1 : left ≤ 1000000) (h2 : -100000000000000000 ≤ left) (h3 : l.length ≤ 1000000000000000) : laws_szGraph.f n l left = some (-1) := by
  unfold laws_szGraph.f
  rw [sz_big l left h0 h1 h2 h3, Option.bind_some, if_pos (by omega)]
theorem szR_ok (p q : List Int) (left : Int) (h0 : (p.length : Int) + (q.length : Int) ≤ left) (h1 : left ≤ 1000000) : laws_szRecord.f p q left = some (left - (p.length : Int) - (q.length : Int)) := by
  unfold laws_szRecord.f
  rw [sz_ok p left (by omega) h1, Option.bind_some, if_neg (by omega), sz_ok q _ (by omega) (by omega), Option.bind_some, if_neg (by omega)]
theorem szR_big (p q : List Int) (left : Int) (h0 : left < (p.length : Int) + (q.length : Int)) (h1 : left ≤ 1000000) (h2 : -100000000000000000 ≤ left) (h3 : p.length ≤ 1000000000000000) (h4 : q.length ≤ 1000000000000000) : laws_szRecord.f p q left = some (-1) := by
  unfold laws_szRecord.f
  by_cases h : left < (p.length : Int)
  · rw [sz_big p left h h1 h2 h3, Option.bind_some, if_pos (by omega)]
  · rw [sz_ok p left (by omega) h1, Option.bind_some, if_neg (by omega), sz_big q _ (by omega) (by omega) (by omega) h4, Option.bind_some, if_pos (by omega)]
end Go.Proofs.Ytjpaaihohkiomaa.Wr
