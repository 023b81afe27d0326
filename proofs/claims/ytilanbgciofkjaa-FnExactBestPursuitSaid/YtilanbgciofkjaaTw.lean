/- Words for the table of numbers of moves: one block of 130 cells; the two calls that make the list of a vertex and its neighbours. -/
import Derived.Test.YtilanbgciofkjaaEstay
import Derived.Test.YtilanbgciofkjaaPAx10
import Derived.Deep.MidRow
import Derived.Deep.WholeRow
import Derived.WalkSpells
namespace Go.Proofs.Ytilanbgciofkjaa.PA
open Go.RowKit Go.Proofs.YtilanbgciofkjaaW.PrintWords Go.Proofs.YtilanbgciofkjaaW.PrintLast Go.Proofs.YtilanbgciofkjaaW.PrintMore Go.Proofs.Ytilanbgciofkjaa.Pure
attribute [local go_sem] max2_int min2_int max_two min_two max_three min_three max_four min_four
set_option linter.unusedVariables false
set_option linter.unusedSimpArgs false
abbrev vI (x : Int) : Value := .int .i64 x
def tabA (n : Int) (s : Value) (C E : List Int) : Array Value := (vI n :: s :: (C ++ E).map vI).toArray
/-- the table lies in block T -/
def TabB (w : World) (T : Nat) (n : Int) (s : Value) (C E : List Int) : Prop := w.heap[T]? = some (.cells (tabA n s C E) 67 (0, 0))
theorem TabB.range {w : World} {T : Nat} {n : Int} {s : Value} {C E : List Int} (h : TabB w T n s C E) : w.rangeAt T 2 (C.map vI) := by
  intro j v hv
  rw [blk_cell h, tabA, List.getElem?_toArray, Nat.add_comm]
  have hj : j < C.length := by have := (List.getElem?_eq_some_iff.1 hv).1; simpa using this
  show ((C ++ E).map vI)[j]? = some v
  rw [List.map_append, List.getElem?_append_left (by simpa using hj)]
  exact hv
theorem TabB.c0 {w : World} {T : Nat} {n : Int} {s : Value} {C E : List Int} (h : TabB w T n s C E) : w.cell? ⟨T, 0, none⟩ = some (.int .i64 n) := (blk_cell h 0).trans rfl
theorem TabB.c1 {w : World} {T : Nat} {n : Int} {s : Value} {C E : List Int} (h : TabB w T n s C E) : w.cell? ⟨T, 1, none⟩ = some s := (blk_cell h 1).trans rfl
theorem TabB.cC {w : World} {T : Nat} {n : Int} {s : Value} {C E : List Int} (h : TabB w T n s C E) (p f : Nat) (hp : p < 8) (hf : f < 8) (hC : C.length = 64) : w.cell? ⟨T, 2 + p * 8 + f, none⟩ = some (.int .i64 (C.getD (8 * p + f) 0)) := by
  rw [blk_cell h, tabA, List.getElem?_toArray, show 2 + p * 8 + f = (8 * p + f) + 2 from by omega]
  show ((C ++ E).map vI)[8 * p + f]? = _
  rw [List.map_append, List.getElem?_append_left (by rw [List.length_map]; omega), List.getElem?_map, List.getElem?_eq_getElem (by omega), List.getD_eq_getElem?_getD, List.getElem?_eq_getElem (by omega)]
  rfl
theorem TabB.cE {w : World} {T : Nat} {n : Int} {s : Value} {C E : List Int} (h : TabB w T n s C E) (p f : Nat) (hp : p < 8) (hf : f < 8) (hC : C.length = 64) (hE : E.length = 64) : w.cell? ⟨T, 66 + p * 8 + f, none⟩ = some (.int .i64 (E.getD (8 * p + f) 0)) := by
  rw [blk_cell h, tabA, List.getElem?_toArray, show 66 + p * 8 + f = (64 + (8 * p + f)) + 2 from by omega]
  show ((C ++ E).map vI)[64 + (8 * p + f)]? = _
  rw [List.map_append, List.getElem?_append_right (by rw [List.length_map]; omega), List.length_map, hC, Nat.add_sub_cancel_left, List.getElem?_map, List.getElem?_eq_getElem (by omega), List.getD_eq_getElem?_getD, List.getElem?_eq_getElem (by omega)]
  rfl
theorem TabB.frozen {w : World} {T : Nat} {n : Int} {s : Value} {C E : List Int} (h : TabB w T n s C E) (i : Nat) : w.frozen? ⟨T, i, none⟩ = false := blk_frozen h i
theorem TabB.setC {w : World} {T : Nat} {n : Int} {s : Value} {C E : List Int} (h : TabB w T n s C E) (p f : Nat) (hp : p < 8) (hf : f < 8) (hC : C.length = 64) (x : Int) : TabB (w.setCell ⟨T, 2 + p * 8 + f, none⟩ (.int .i64 x)) T n s (C.set (8 * p + f) x) E := by
  refine blk_put h _ _ ?_
  rw [tabA, tabA, show 2 + p * 8 + f = (8 * p + f) + 2 from by omega, List.setIfInBounds_toArray, List.set_cons_succ, List.set_cons_succ, ← List.map_set, List.set_append_left _ _ (by omega)]
theorem TabB.setE {w : World} {T : Nat} {n : Int} {s : Value} {C E : List Int} (h : TabB w T n s C E) (p f : Nat) (hp : p < 8) (hf : f < 8) (hC : C.length = 64) (x : Int) : TabB (w.setCell ⟨T, 66 + p * 8 + f, none⟩ (.int .i64 x)) T n s C (E.set (8 * p + f) x) := by
  refine blk_put h _ _ ?_
  rw [tabA, tabA, show 66 + p * 8 + f = (64 + (8 * p + f)) + 2 from by omega, List.setIfInBounds_toArray, List.set_cons_succ, List.set_cons_succ, ← List.map_set, List.set_append_right _ _ (by omega), hC, Nat.add_sub_cancel_left]
theorem TabB.below {w w1 : World} {T : Nat} {n : Int} {s : Value} {C E : List Int} (h : TabB w T n s C E) (hb : Below w.heap.size w w1) : TabB w1 T n s C E := blk_below h hb
theorem TabB.lt {w : World} {T : Nat} {n : Int} {s : Value} {C E : List Int} (h : TabB w T n s C E) : T < w.heap.size := blk_lt h
theorem grown_set (w : World) (a : Addr) (u : Value) : w.grownBy (w.setCell a u) (some a.block) :=
  ⟨rfl, rfl, rfl, by simp [World.setCell], fun i hi hne => Below.heap_setCell w a u i (fun e => hne (by rw [e]))⟩
theorem grown_then {w w1 w2 : World} {T : Nat} (h : w.grownBy w1 (some T)) (hb : Below w1.heap.size w1 w2) : w.grownBy w2 (some T) := h.trans (grown_of_below hb (some T))
theorem grown_set_then {w w1 : World} {T o : Nat} (h : w.grownBy w1 (some T)) (u : Value) : w.grownBy (w1.setCell ⟨T, o, none⟩ u) (some T) := h.trans (grown_set w1 ⟨T, o, none⟩ u)
theorem grown_kept {w w1 : World} {T : Nat} (h : w.grownBy w1 (some T)) : Kept w w1 (fun k => k = T) := ⟨h.size, fun i hi hn => h.block i hi (fun e => hn (by injection e))⟩
theorem grown_draw {w w1 : World} {T : Nat} (h : w.grownBy w1 (some T)) (m : Nat) : w.grownBy (w1.drewN m) (some T) := ⟨h.os, h.tape, h.output, h.size, h.block⟩
/-- the list of a graph's rows stays readable whatever happens to block T -/
def RowS (w : World) (T : Nat) (A : Option Addr) (l : List Int) : Prop := ∀ W', w.grownBy W' (some T) → Kd.C (Kd.int .i64) W' A l.length l
theorem RowS.now {w w1 : World} {T : Nat} {A : Option Addr} {l : List Int} (h : RowS w T A l) (hg : w.grownBy w1 (some T)) : Kd.C (Kd.int .i64) w1 A l.length l := h w1 hg
theorem RowS.step {w w1 : World} {T : Nat} {A : Option Addr} {l : List Int} (h : RowS w T A l) (hg : w.grownBy w1 (some T)) : RowS w1 T A l := fun W' h' => h W' (hg.trans h')
theorem RowS.of {w : World} {T : Nat} {A : Option Addr} {l : List Int} (h : Kd.C (Kd.int .i64) w A l.length l) (hT : ∀ ad, A = some ad → 0 < l.length → ad.block ≠ T) : RowS w T A l := fun W' hg =>
  ⟨h.1, h.2.1, fun hn => by
    obtain ⟨ad, he, hc⟩ := h.2.2 hn
    refine ⟨ad, he, fun j p hj => ?_⟩
    obtain ⟨cs, h1, h2, h3⟩ := hc j p hj
    exact ⟨cs, h1, h2, fun i u hu => cell_kept (h3 i u hu) (grown_kept hg) (by rw [add_block]; exact hT ad he hn)⟩⟩

section
variable {a : Act} {o : Oper} {W : World}
theorem row_run (x y : Operand) (ho : o.op = .indexAddr 65 x y) (g off p : Nat) (hx : a.eval x = .pointer (some ⟨g, off, none⟩)) (hy : a.eval y = .int .i64 (p : Int)) (hp : p < 8) : (execOp a.eval o).run Try.prog W = .ok (.value (.pointer (some ⟨g, off + p * 8, none⟩))) W := by
  have h0 : (0 : Int) ≤ (p : Int) := Int.natCast_nonneg _
  have h8 : (p : Int) < 8 := by omega
  unfold execOp
  rw [ho]
  simp only [hx, hy]
  clear hx hy ho
  go_simp
  all_goals (try rfl)
theorem col_run (x y : Operand) (ho : o.op = .indexAddr 64 x y) (g off p : Nat) (hx : a.eval x = .pointer (some ⟨g, off, none⟩)) (hy : a.eval y = .int .i64 (p : Int)) (hp : p < 8) : (execOp a.eval o).run Try.prog W = .ok (.value (.pointer (some ⟨g, off + p, none⟩))) W := by
  have h0 : (0 : Int) ≤ (p : Int) := Int.natCast_nonneg _
  have h8 : (p : Int) < 8 := by omega
  unfold execOp
  rw [ho]
  simp only [hx, hy]
  clear hx hy ho
  go_simp
  all_goals (try rfl)
theorem load_run (x : Operand) (ho : o.op = .load 3 x) (g off : Nat) (v : Int) (hx : a.eval x = .pointer (some ⟨g, off, none⟩)) (hc : W.cell? ⟨g, off, none⟩ = some (.int .i64 v)) : (execOp a.eval o).run Try.prog W = .ok (.value (.int .i64 v)) W := by
  unfold execOp
  rw [ho]
  simp only [hx]
  clear hx ho
  go_simp
  all_goals (try rfl)
theorem put_run (x y : Operand) (ho : o.op = .store 3 x y) (g off : Nat) (u : Value) (v : Int) (hx : a.eval x = .pointer (some ⟨g, off, none⟩)) (hy : a.eval y = .int .i64 v) (hc : W.cell? ⟨g, off, none⟩ = some u) (hf : W.frozen? ⟨g, off, none⟩ = false) : (execOp a.eval o).run Try.prog W = .ok .skip (W.setCell ⟨g, off, none⟩ (.int .i64 v)) := by
  unfold execOp
  rw [ho]
  simp only [hx, hy]
  clear hx hy ho
  go_simp
  all_goals (try rfl)
end
/-- the two calls that make the list of a vertex and its neighbours -/
theorem stay_c {n : Int} {l : List Int} (g : GOk n l) (v : Nat) (hv : v < l.length) (A : Option Addr) (c : Nat) (hc : l.length ≤ c) (w : World) (hr : Kd.C (Kd.int .i64) w A l.length l) :
    Calls Try.prog 94 #[.agg #[.int .i64 n, .slice A l.length c], .int .i64 (v : Int)] w fun e w' => e = .returned (.int .i64 ((stayN l v : Nat) : Int)) ∧ Below w.heap.size w w' :=
  impl_Graph_stay.calls n A c l v _ w hr hc (stayN_impl g v hv)
theorem list_c {n : Int} {l : List Int} (g : GOk n l) (v : Nat) (hv : v < l.length) (w : World) :
    Calls Try.prog 86 #[.int .i64 ((stayN l v : Nat) : Int)] w fun e w' => ∃ A c, e = .returned (.slice A (stayL l v).length c) ∧ Kd.R (Kd.int .i64) 3 w' w.heap.size (fun _ => True) (.slice A (stayL l v).length c) (stayL l v) ∧ Below w.heap.size w w' := by
  obtain ⟨k, hk⟩ := (list_impl (stayN l v) (stayN_lt8 g v hv)).rounds
  refine (impl_ListSet.calls k _ _ w hk).mono ?_
  rintro e w' ⟨v0, rfl, h1, h2⟩
  obtain ⟨A, c, e⟩ := Kd.R_slice h1
  subst e
  exact ⟨A, c, rfl, h1, h2⟩
end Go.Proofs.Ytilanbgciofkjaa.PA
